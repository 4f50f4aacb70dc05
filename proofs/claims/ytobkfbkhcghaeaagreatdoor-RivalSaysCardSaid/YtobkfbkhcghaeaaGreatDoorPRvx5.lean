-- functions and contracts as the kit's print.py writes them, the roots chosen in this session (wip/proots.sh)
-- slim
import Derived.Test.YtobkfbkhcghaeaaGreatDoorPRvx0
import Derived.Test.YtobkfbkhcghaeaaGreatDoorStRv
import Derived.Test.YtobkfbkhcghaeaaGreatDoorPRvx1
import Derived.Test.YtobkfbkhcghaeaaGreatDoorRvU
namespace Go.Proofs.YtobkfbkhcghaeaaGreatDoor.PRv
open Go.RowKit Go.Proofs.YtobkfbkhcghaeaaGreatDoorW.PrintWords Go.Proofs.YtobkfbkhcghaeaaGreatDoorW.PrintLast Go.Proofs.YtobkfbkhcghaeaaGreatDoorW.PrintMore
attribute [local go_sem] max2_int min2_int max_two min_two max_three min_three max_four min_four   -- for this text's walks alone
set_option linter.unusedVariables false
set_option linter.unusedSimpArgs false

/-! ### trace_Good: function 18 -/
mutual
def trace_Good.j0 : Nat → List (S45) → List Int → Bool → Option (Bool)
 | 0, _, _, _ => none
 | k + 1, x0, x1, x15 => if x15 = true then (some false) else (if 0 ≤ (x0.length : Int) then (if ((x0.length : Int) : Int).toNat ≤ 35184372088832 then (trace_Good.l0 k x0 (List.replicate ((x0.length : Int) : Int).toNat 0) x1 (x1.length : Int) 0) else (none)) else (none))
def trace_Good.l0 : Nat → List (S45) → List Int → List Int → Int → Int → Option (Bool)
 | 0, _, _, _, _, _ => none
 | k + 1, x0, x5, x19, x20, x21 => if x21 < x20 then (if 0 ≤ x21 then (if x21 < (x19.length : Int) then (if (rd x19 x21) = (-1) then (trace_Good.l0 k x0 x5 x19 x20 (wrap64 (x21 + 1))) else (if (rd x19 x21) < 0 then (some false) else (if (rd x19 x21) ≥ (x0.length : Int) then (some false) else (if 0 ≤ (rd x19 x21) then (if (rd x19 x21) < (x0.length : Int) then (if x21 < ((rd_T45 x0 (rd x19 x21)).f1) then (some false) else (if x21 ≥ ((rd_T45 x0 (rd x19 x21)).f2) then (some false) else (if (rd x19 x21) < (x5.length : Int) then ((job_Work.f ((rd_T45 x0 (rd x19 x21)).f0) ((rd_T45 x0 (rd x19 x21)).f1) ((rd_T45 x0 (rd x19 x21)).f2) ((rd_T45 x0 (rd x19 x21)).f3) ((rd_T45 x0 (rd x19 x21)).f4) ((rd_T45 x0 (rd x19 x21)).f5) ((rd_T45 x0 (rd x19 x21)).f6) ((rd_T45 x0 (rd x19 x21)).f7)).bind fun t115 => (if (rd x5 (rd x19 x21)) ≥ t115 then (some false) else (trace_Good.l0 k x0 (x5.set ((rd x19 x21) : Int).toNat (wrap64 ((rd x5 (rd x19 x21)) + 1))) x19 x20 (wrap64 (x21 + 1))))) else (none)))) else (none)) else (none))))) else (none)) else (none)) else (some true)
end
def trace_Good.f (k : Nat) (l0 : List (S45)) (l1 : List Int) : Option (Bool) := (job_All.f l0).bind fun t106 => (if t106 = true then (trace_Good.j0 k l0 l1 (decide ((l1.length : Int) > 10000))) else (trace_Good.j0 k l0 l1 true))
def trace_Good.T8 : Bool × List (List Nat × List Nat) := (true, [([], []), ([0], [0]), ([1], [1]), ([2], [2]), ([2], [2]), ([4, 2], [2, 4]), ([3, 5, 2], [2, 3, 5]), ([2, 6], [2, 6]), ([7, 2], [7]), ([8], [8]), ([8], [8]), ([8], [8]), ([10, 11, 8], [8, 10, 11]), ([12, 8], [8, 12]), ([13, 8], [8, 13]), ([9, 14, 8], [8, 9, 14]), ([8, 15], [8, 15]), ([16, 8], [16]), ([17], [17]), ([17], [17]), ([17], [17]), ([19, 20, 17], [17, 19, 20]), ([21, 17], [17, 21]), ([22, 17], [17, 22]), ([18, 23, 17], [17, 18, 23]), ([17, 24], [17, 24]), ([25, 17], [25]), ([26], [26]), ([26], [26]), ([27, 28, 26], [26, 27, 28]), ([29, 26], [26, 29]), ([26], [26]), ([26], [26]), ([31, 32, 26], [26, 31, 32]), ([33, 26], [26, 33]), ([34, 26, 26], [26, 34]), ([30, 35, 26], [26, 30, 35]), ([26, 36], [26, 36])])
def trace_Good.B8 : List Nat := [0, 1, 3, 7, 7, 23, 63, 127, 255, 511, 511, 511, 3583, 7679, 15871, 32767, 65535, 131071, 262143, 262143, 262143, 1835007, 3932159, 8126463, 16777215, 33554431, 67108863, 134217727, 134217727, 536870911, 1073741823, 134217727, 134217727, 6576668671, 15166603263, 32346472447, 68719476735, 137438953471]
theorem trace_Good.tab8 : rtab .any (opsOf Tryz.f18 8) = trace_Good.T8 := by kernel_rfl
theorem trace_Good.bits8 : waitsOk trace_Good.T8.2 trace_Good.B8 = true := by kernel_rfl
set_option maxHeartbeats 8000000 in
set_option maxRecDepth 100000 in
theorem trace_Good.calls (k : Nat) (A0 : Option Addr) (c0 : Nat) (l0 : List (S45)) (A1 : Option Addr) (c1 : Nat) (l1 : List Int) (r : Bool) (w : World) (hTb : Tab w) (hr0 : Kd.C k45 w A0 l0.length l0) (hc0 : l0.length ≤ c0) (hr1 : Kd.C (Kd.int .i64) w A1 l1.length l1) (hc1 : l1.length ≤ c1) (h : trace_Good.f k l0 l1 = some r) :
  Calls Tryz.prog 18 #[.slice A0 l0.length c0, .slice A1 l1.length c1] w fun e w' => e = .returned (.bool r) ∧ Below w.heap.size w w' := by
 have HTb := Aside0.mk hTb
 clear hTb
 have hu45 := Tryz.underlying45
 have HR0 := Aside0.mk hr0
 have HC0 := Aside0.mk hc0
 clear hr0 hc0
 have HR1 := Aside0.mk hr1
 have HC1 := Aside0.mk hc1
 clear hr1 hc1
 have HB := Aside0.mk (Below.refl w.heap.size w)
 have H : ((job_All.f l0).bind fun t106 => (if t106 = true then (trace_Good.j0 k l0 l1 (decide ((l1.length : Int) > 10000))) else (trace_Good.j0 k l0 l1 true))) = some r := h
 clear h
 have HC3 := Aside0.mk H
 clear H
 go_enter Tryz.func18, Tryz.ntmps18
 go_upto_region 1 with (fail)
 go_cut [15] (fun v15 wc => ∃ (kq : Nat) (x15_2 : Bool), v15 = .bool x15_2 ∧ Aside0 (trace_Good.j0 kq l0 l1 x15_2 = some r) ∧ Aside0 (kq ≤ k) ∧ Aside0 (Below w.heap.size w wc))
 case first =>
  have H := HC3.out
  clear HC3
  replace H := Option.bind_eq_some_iff.mp H
  obtain ⟨t106, A40, H⟩ := H
  replace H : (if t106 = true then (trace_Good.j0 k l0 l1 (decide ((l1.length : Int) > 10000))) else (trace_Good.j0 k l0 l1 true)) = some r := H
  have A4 := Aside0.mk A40
  clear A40
  by_cases c5 : t106 = true
  ·subst c5
   have H1 : (trace_Good.j0 k l0 l1 (decide ((l1.length : Int) > 10000))) = some r := by rw [if_pos rfl] at H; exact H
   clear H
   have H := H1
   clear H1
   have H' := Aside0.mk H
   clear H
   go_wp2_with (first | ((with_reducible refine gate_callee (f := 20) rfl ?_); refine goesL_ (some 9) rfl rfl Tryz.func20 (by kernel_rfl) rfl #[.slice A0 l0.length c0] rfl (by (try simp only [List.map_toArray, List.map_cons, List.map_nil]); first | done | rfl | (simp only [List.length_drop, List.length_take]; rfl)) ?_; (with_reducible refine (job_All.calls _ _ l0 true _ (tab_below HTb.out (bel HB)) ?side1 ?side2 A4.out).mono ?_); (case side1 => repeat (first | exact (Kd.C_below HR0.out HB.out) | (with_reducible refine Kd.C_alloc ?_ _) | (with_reducible refine Kd.C_drewN ?_ _) | (with_reducible refine Kd.C_drew ?_))); (case side2 => exact HC0.out); rintro e w6 ⟨rfl, hb⟩; refine ⟨_, rfl, ?_⟩; have n0_ := Aside0.mk (below_step (bel HB) hb); clear HB; have HB := n0_; clear n0_; (try clear hb); (try clear hb2); (try clear hk); (try clear hi)))
   go_meet
   case rel => exact ⟨_, (decide ((l1.length : Int) > 10000)), (by first | rfl | simp [*]), H', ⟨by first | omega | exact Nat.le_refl _⟩, ⟨bel HB⟩⟩
  ·replace c5 := Bool.eq_false_iff.mpr c5
   subst c5
   have H1 : (trace_Good.j0 k l0 l1 true) = some r := by rw [if_neg (show ¬ (false = true) by decide)] at H; exact H
   clear H
   have H := H1
   clear H1
   have H' := Aside0.mk H
   clear H
   go_wp2_with (first | ((with_reducible refine gate_callee (f := 20) rfl ?_); refine goesL_ (some 9) rfl rfl Tryz.func20 (by kernel_rfl) rfl #[.slice A0 l0.length c0] rfl (by (try simp only [List.map_toArray, List.map_cons, List.map_nil]); first | done | rfl | (simp only [List.length_drop, List.length_take]; rfl)) ?_; (with_reducible refine (job_All.calls _ _ l0 false _ (tab_below HTb.out (bel HB)) ?side1 ?side2 A4.out).mono ?_); (case side1 => repeat (first | exact (Kd.C_below HR0.out HB.out) | (with_reducible refine Kd.C_alloc ?_ _) | (with_reducible refine Kd.C_drewN ?_ _) | (with_reducible refine Kd.C_drew ?_))); (case side2 => exact HC0.out); rintro e w7 ⟨rfl, hb⟩; refine ⟨_, rfl, ?_⟩; have n0_ := Aside0.mk (below_step (bel HB) hb); clear HB; have HB := n0_; clear n0_; (try clear hb); (try clear hb2); (try clear hk); (try clear hi)))
   go_meet
   case rel => exact ⟨_, (true), (by first | rfl | simp [*]), H', ⟨by first | omega | exact Nat.le_refl _⟩, ⟨bel HB⟩⟩
 case rest =>
  clear HC3
  try clear c1
  try clear c2
  try clear p2
  try clear c5
  obtain ⟨kq, x15_2, rfl, HA, HJ2, HB⟩ := hcut
  cases kq with
  | zero => exact absurd HA.out (by simp [trace_Good.j0])
  | succ kj2 =>
   have H := HA.out
   clear HA
   simp only [trace_Good.j0] at H
   by_cases c8 : x15_2 = true
   ·subst c8
    have H1 : (some false) = some r := by rw [if_pos rfl] at H; exact H
    clear H
    have H := H1
    clear H1
    obtain rfl := Option.some.inj H
    go_wp2
    go_ret
    exact ⟨by first | rfl | (simp [*] <;> rfl), bel HB⟩
   ·replace c8 := Bool.eq_false_iff.mpr c8
    subst c8
    have H1 : (if 0 ≤ (l0.length : Int) then (if ((l0.length : Int) : Int).toNat ≤ 35184372088832 then (trace_Good.l0 kj2 l0 (List.replicate ((l0.length : Int) : Int).toNat 0) l1 (l1.length : Int) 0) else (none)) else (none)) = some r := by rw [if_neg (show ¬ (false = true) by decide)] at H; exact H
    clear H
    have H := H1
    clear H1
    by_cases c9 : 0 ≤ (l0.length : Int)
    ·rw [if_pos c9] at H
     have c9b0 := eq_true c9
     have c9b1 : decide (0 ≤ (l0.length : Int)) = true := decide_eq_true c9
     clear c9
     by_cases c10 : ((l0.length : Int) : Int).toNat ≤ 35184372088832
     ·rw [if_pos c10] at H
      have c10b0 := eq_true c10
      have c10b1 : decide (((l0.length : Int) : Int).toNat ≤ 35184372088832) = true := decide_eq_true c10
      clear c10
      obtain ⟨y107, hy107⟩ : ∃ y_ : List Int, y_ = (List.replicate ((l0.length : Int) : Int).toNat 0) := ⟨_, rfl⟩
      replace H : (trace_Good.l0 kj2 l0 y107 l1 (l1.length : Int) 0) = some r := by first | (rw [hy107]; with_reducible exact H) | (have H2_ := (Option.bind_some _ _).symm.trans H; rw [hy107]; with_reducible exact H2_) | (have H2_ := (Option.bind_some _ _).symm.trans H; with_reducible exact H2_) | with_reducible exact H | (rw [hy107]; exact H) | exact H
      have Ny107 := Aside0.mk hy107
      clear hy107
      have H' := Aside0.mk H
      clear H
      go_wp2_with (first | ((with_reducible refine gate_dst (N := 18) rfl ?_); (try (refine gate_guard (by rfl) ?_; dsimp only)); refine Kd.R_make (Kd.int .i64) _ 3 rfl (N := 18) rfl 23 _ _ rfl (l0.length : Int) rfl rfl Tryz.underlying23 (.int .i64 0) 8 info3 rfl (by decide) (by omega) 0 (ok := fun _ => True) (okp := fun _ => True) rfl (fun _ hk => hk) trivial (of_decide_eq_true ‹_›) (Nat.le_trans (Nat.mul_le_mul_right _ (of_decide_eq_true ‹_› : (l0.length : Int).toNat ≤ 35184372088832)) (by omega)) (Below.refl _ _) (Nat.le_refl _) ?_; intro v108 w11 ho12 hb hg_ hnew_; clear hg_ hnew_; (first | rw [← Ny107.out] at ho12 | (simp only [Int.reduceToNat] at ho12; rw [← Ny107.out] at ho12)); have n0_ := Aside0.mk (Kd.R_lower ho12 (below_size (bel HB))); have n1_ := Aside0.mk (below_step (bel HB) hb); clear HB; have HO109 := n0_; have HB := n1_; clear n0_ n1_; clear hb ho12))
      go_loopg [21] kj2 (fun kq v21 w' => ∃ (x5_2 : List Int) (x21_2 : Int), v21 = .int .i64 x21_2 ∧ Aside0 (trace_Good.l0 kq l0 x5_2 l1 (l1.length : Int) x21_2 = some r) ∧ Aside0 (kq ≤ kj2) ∧ Aside0 (Kd.R (Kd.int .i64) 3 w' w.heap.size (fun _ => True) v108 x5_2) ∧ Aside0 (Below w.heap.size w w'))
      case atStart => exact ⟨(y107), (0), (by first | rfl | simp [*]), H', ⟨Nat.le_refl _⟩, ⟨by (with_reducible repeat (first | apply Kd.R_alloc | apply Kd.R_drewN | apply Kd.R_drew)); exact HO109.out⟩, ⟨bel HB⟩⟩
      case round =>
       clear H'
       try clear c1
       try clear c2
       try clear p2
       try clear c5
       try clear c8
       try clear c9
       try clear c9b0
       try clear c9b1
       try clear c10
       try clear c10b0
       try clear c10b1
       try clear p2
       obtain ⟨x5_2, x21_2, rfl, HA, HK2, HO_5, HB⟩ := hrel
       cases gk with
       | zero => exact absurd HA.out (by simp [trace_Good.l0])
       | succ k2 =>
        have H := HA.out
        clear HA
        simp only [trace_Good.l0] at H
        by_cases c13 : x21_2 < (l1.length : Int)
        ·rw [if_pos c13] at H
         have c13b0 : decide (x21_2 < (l1.length : Int)) = true := decide_eq_true c13
         clear c13
         by_cases c14 : 0 ≤ x21_2
         ·rw [if_pos c14] at H
          have c14b0 : decide (0 ≤ x21_2) = true := decide_eq_true c14
          clear c14
          by_cases c15 : x21_2 < (l1.length : Int)
          ·rw [if_pos c15] at H
           have c15b0 : decide (x21_2 < (l1.length : Int)) = true := decide_eq_true c15
           clear c15
           by_cases c16 : (rd l1 x21_2) = (-1)
           ·rw [if_pos c16] at H
            have c16b0 : ((rd l1 x21_2) == (-1)) = true := beq_iff_eq.mpr c16
            have c16b1 : ((rd l1 x21_2) != (-1)) = false := bne_eq_false_iff_eq.mpr c16
            clear c16
            have H' := Aside0.mk H
            clear H
            have p110 : 0 ≤ (x21_2 : Int) := of_decide_eq_true ‹_›
            have q110 : x21_2 < (l1.length : Int) := of_decide_eq_true ‹_›
            obtain ⟨ad110, e110, hx110_0⟩ := Kd.at_int HR1.out x21_2 p110 q110
            cases e110
            replace hx110_0 := bl HB hx110_0
            replace p110 := eq_true p110
            replace q110 := eq_true q110
            go_wp2
            go_roundg k2
            case measure => have := HJ2.out; have := HK2.out; omega
            case rel => exact ⟨(x5_2), (wrap64 (x21_2 + 1)), (by first | rfl | simp [*]), H', ⟨by have := HJ2.out; have := HK2.out; omega⟩, ⟨by (with_reducible repeat (first | apply Kd.R_alloc | apply Kd.R_drewN | apply Kd.R_drew)); exact HO_5.out⟩, ⟨bel HB⟩⟩
           ·rw [if_neg c16] at H
            have c16b0 : ((rd l1 x21_2) == (-1)) = false := beq_eq_false_iff_ne.mpr c16
            have c16b1 : ((rd l1 x21_2) != (-1)) = true := bne_iff_ne.mpr c16
            by_cases c17 : (rd l1 x21_2) < 0
            ·rw [if_pos c17] at H
             have c17b0 : decide ((rd l1 x21_2) < 0) = true := decide_eq_true c17
             clear c17
             obtain rfl := Option.some.inj H
             have p110 : 0 ≤ (x21_2 : Int) := of_decide_eq_true ‹_›
             have q110 : x21_2 < (l1.length : Int) := of_decide_eq_true ‹_›
             obtain ⟨ad110, e110, hx110_0⟩ := Kd.at_int HR1.out x21_2 p110 q110
             cases e110
             replace hx110_0 := bl HB hx110_0
             replace p110 := eq_true p110
             replace q110 := eq_true q110
             try go_wp2
             go_quiet (fail)
             try go_wp2
             go_ret
             exact ⟨by first | rfl | (simp [*] <;> rfl), bel HB⟩
            ·rw [if_neg c17] at H
             have c17b0 : decide ((rd l1 x21_2) < 0) = false := decide_eq_false c17
             clear c17
             by_cases c19 : (rd l1 x21_2) ≥ (l0.length : Int)
             ·rw [if_pos c19] at H
              have c19b0 : decide ((l0.length : Int) ≤ (rd l1 x21_2)) = true := decide_eq_true c19
              clear c19
              obtain rfl := Option.some.inj H
              have p110 : 0 ≤ (x21_2 : Int) := of_decide_eq_true ‹_›
              have q110 : x21_2 < (l1.length : Int) := of_decide_eq_true ‹_›
              obtain ⟨ad110, e110, hx110_0⟩ := Kd.at_int HR1.out x21_2 p110 q110
              cases e110
              replace hx110_0 := bl HB hx110_0
              replace p110 := eq_true p110
              replace q110 := eq_true q110
              try go_wp2
              go_quiet (fail)
              try go_wp2
              go_ret
              exact ⟨by first | rfl | (simp [*] <;> rfl), bel HB⟩
             ·rw [if_neg c19] at H
              have c19b0 : decide ((l0.length : Int) ≤ (rd l1 x21_2)) = false := decide_eq_false c19
              clear c19
              by_cases c21 : 0 ≤ (rd l1 x21_2)
              ·rw [if_pos c21] at H
               have c21b0 : decide (0 ≤ (rd l1 x21_2)) = true := decide_eq_true c21
               clear c21
               by_cases c22 : (rd l1 x21_2) < (l0.length : Int)
               ·rw [if_pos c22] at H
                have c22b0 : decide ((rd l1 x21_2) < (l0.length : Int)) = true := decide_eq_true c22
                clear c22
                by_cases c23 : x21_2 < ((rd_T45 l0 (rd l1 x21_2)).f1)
                ·rw [if_pos c23] at H
                 have c23b0 : decide (x21_2 < ((rd_T45 l0 (rd l1 x21_2)).f1)) = true := decide_eq_true c23
                 clear c23
                 obtain rfl := Option.some.inj H
                 have p110 : 0 ≤ (x21_2 : Int) := of_decide_eq_true ‹_›
                 have q110 : x21_2 < (l1.length : Int) := of_decide_eq_true ‹_›
                 obtain ⟨ad110, e110, hx110_0⟩ := Kd.at_int HR1.out x21_2 p110 q110
                 cases e110
                 replace hx110_0 := bl HB hx110_0
                 replace p110 := eq_true p110
                 replace q110 := eq_true q110
                 try go_wp2
                 have p111 : 0 ≤ ((rd l1 x21_2) : Int) := of_decide_eq_true ‹_›
                 have q111 : (rd l1 x21_2) < (l0.length : Int) := of_decide_eq_true ‹_›
                 obtain ⟨ad111, e111, hx111_0, hx111_1, hx111_2, hx111_3, hx111_4, hx111_5, hx111_6, hx111_7⟩ := at_T45 HR0.out (rd l1 x21_2) p111 q111
                 cases e111
                 replace hx111_0 := bl HB hx111_0
                 replace hx111_1 := bl HB hx111_1
                 replace hx111_2 := bl HB hx111_2
                 replace hx111_3 := bl HB hx111_3
                 replace hx111_4 := bl HB hx111_4
                 replace hx111_5 := bl HB hx111_5
                 replace hx111_6 := bl HB hx111_6
                 replace hx111_7 := bl HB hx111_7
                 replace p111 := eq_true p111
                 replace q111 := eq_true q111
                 go_quiet (fail)
                 try go_wp2
                 go_ret
                 exact ⟨by first | rfl | (simp [*] <;> rfl), bel HB⟩
                ·rw [if_neg c23] at H
                 have c23b0 : decide (x21_2 < ((rd_T45 l0 (rd l1 x21_2)).f1)) = false := decide_eq_false c23
                 clear c23
                 by_cases c25 : x21_2 ≥ ((rd_T45 l0 (rd l1 x21_2)).f2)
                 ·rw [if_pos c25] at H
                  have c25b0 : decide (((rd_T45 l0 (rd l1 x21_2)).f2) ≤ x21_2) = true := decide_eq_true c25
                  clear c25
                  obtain rfl := Option.some.inj H
                  have p110 : 0 ≤ (x21_2 : Int) := of_decide_eq_true ‹_›
                  have q110 : x21_2 < (l1.length : Int) := of_decide_eq_true ‹_›
                  obtain ⟨ad110, e110, hx110_0⟩ := Kd.at_int HR1.out x21_2 p110 q110
                  cases e110
                  replace hx110_0 := bl HB hx110_0
                  replace p110 := eq_true p110
                  replace q110 := eq_true q110
                  try go_wp2
                  have p111 : 0 ≤ ((rd l1 x21_2) : Int) := of_decide_eq_true ‹_›
                  have q111 : (rd l1 x21_2) < (l0.length : Int) := of_decide_eq_true ‹_›
                  obtain ⟨ad111, e111, hx111_0, hx111_1, hx111_2, hx111_3, hx111_4, hx111_5, hx111_6, hx111_7⟩ := at_T45 HR0.out (rd l1 x21_2) p111 q111
                  cases e111
                  replace hx111_0 := bl HB hx111_0
                  replace hx111_1 := bl HB hx111_1
                  replace hx111_2 := bl HB hx111_2
                  replace hx111_3 := bl HB hx111_3
                  replace hx111_4 := bl HB hx111_4
                  replace hx111_5 := bl HB hx111_5
                  replace hx111_6 := bl HB hx111_6
                  replace hx111_7 := bl HB hx111_7
                  replace p111 := eq_true p111
                  replace q111 := eq_true q111
                  have p112 : 0 ≤ ((rd l1 x21_2) : Int) := of_decide_eq_true ‹_›
                  have q112 : (rd l1 x21_2) < (l0.length : Int) := of_decide_eq_true ‹_›
                  obtain ⟨ad112, e112, hx112_0, hx112_1, hx112_2, hx112_3, hx112_4, hx112_5, hx112_6, hx112_7⟩ := at_T45 HR0.out (rd l1 x21_2) p112 q112
                  obtain rfl : ad111 = ad112 := (by injection e112)
                  replace hx112_0 := bl HB hx112_0
                  replace hx112_1 := bl HB hx112_1
                  replace hx112_2 := bl HB hx112_2
                  replace hx112_3 := bl HB hx112_3
                  replace hx112_4 := bl HB hx112_4
                  replace hx112_5 := bl HB hx112_5
                  replace hx112_6 := bl HB hx112_6
                  replace hx112_7 := bl HB hx112_7
                  replace p112 := eq_true p112
                  replace q112 := eq_true q112
                  go_quiet (fail)
                  try go_wp2
                  go_ret
                  exact ⟨by first | rfl | (simp [*] <;> rfl), bel HB⟩
                 ·rw [if_neg c25] at H
                  have c25b0 : decide (((rd_T45 l0 (rd l1 x21_2)).f2) ≤ x21_2) = false := decide_eq_false c25
                  clear c25
                  by_cases c27 : (rd l1 x21_2) < (x5_2.length : Int)
                  ·rw [if_pos c27] at H
                   have c27b0 : decide ((rd l1 x21_2) < (x5_2.length : Int)) = true := decide_eq_true c27
                   clear c27
                   replace H := Option.bind_eq_some_iff.mp H
                   obtain ⟨t115, A280, H⟩ := H
                   replace H : (if (rd x5_2 (rd l1 x21_2)) ≥ t115 then (some false) else (trace_Good.l0 k2 l0 (x5_2.set ((rd l1 x21_2) : Int).toNat (wrap64 ((rd x5_2 (rd l1 x21_2)) + 1))) l1 (l1.length : Int) (wrap64 (x21_2 + 1)))) = some r := H
                   have A28 := Aside0.mk A280
                   clear A280
                   have HH_ := Aside0.mk H
                   clear H
                   have p110 : 0 ≤ (x21_2 : Int) := of_decide_eq_true ‹_›
                   have q110 : x21_2 < (l1.length : Int) := of_decide_eq_true ‹_›
                   obtain ⟨ad110, e110, hx110_0⟩ := Kd.at_int HR1.out x21_2 p110 q110
                   cases e110
                   replace hx110_0 := bl HB hx110_0
                   replace p110 := eq_true p110
                   replace q110 := eq_true q110
                   try go_wp2
                   have n0_ := Aside0.mk (Kd.R_drew HO_5.out)
                   have n1_ := Aside0.mk (below_drew1 HB.out)
                   clear HO_5
                   clear HB
                   have HO_5 := n0_
                   have HB := n1_
                   clear n0_ n1_
                   have p111 : 0 ≤ ((rd l1 x21_2) : Int) := of_decide_eq_true ‹_›
                   have q111 : (rd l1 x21_2) < (l0.length : Int) := of_decide_eq_true ‹_›
                   obtain ⟨ad111, e111, hx111_0, hx111_1, hx111_2, hx111_3, hx111_4, hx111_5, hx111_6, hx111_7⟩ := at_T45 HR0.out (rd l1 x21_2) p111 q111
                   have hw111_7 := hx111_7
                   have hw111_6 := hx111_6
                   have hw111_5 := hx111_5
                   have hw111_4 := hx111_4
                   have hw111_3 := hx111_3
                   have hw111_2 := hx111_2
                   have hw111_1 := hx111_1
                   have hw111_0 := hx111_0
                   cases e111
                   replace hx111_0 := bl HB hx111_0
                   replace hx111_1 := bl HB hx111_1
                   replace hx111_2 := bl HB hx111_2
                   replace hx111_3 := bl HB hx111_3
                   replace hx111_4 := bl HB hx111_4
                   replace hx111_5 := bl HB hx111_5
                   replace hx111_6 := bl HB hx111_6
                   replace hx111_7 := bl HB hx111_7
                   replace p111 := eq_true p111
                   replace q111 := eq_true q111
                   have p112 : 0 ≤ ((rd l1 x21_2) : Int) := of_decide_eq_true ‹_›
                   have q112 : (rd l1 x21_2) < (l0.length : Int) := of_decide_eq_true ‹_›
                   obtain ⟨ad112, e112, hx112_0, hx112_1, hx112_2, hx112_3, hx112_4, hx112_5, hx112_6, hx112_7⟩ := at_T45 HR0.out (rd l1 x21_2) p112 q112
                   have hw112_7 := hx112_7
                   have hw112_6 := hx112_6
                   have hw112_5 := hx112_5
                   have hw112_4 := hx112_4
                   have hw112_3 := hx112_3
                   have hw112_2 := hx112_2
                   have hw112_1 := hx112_1
                   have hw112_0 := hx112_0
                   obtain rfl : ad111 = ad112 := (by injection e112)
                   replace hx112_0 := bl HB hx112_0
                   replace hx112_1 := bl HB hx112_1
                   replace hx112_2 := bl HB hx112_2
                   replace hx112_3 := bl HB hx112_3
                   replace hx112_4 := bl HB hx112_4
                   replace hx112_5 := bl HB hx112_5
                   replace hx112_6 := bl HB hx112_6
                   replace hx112_7 := bl HB hx112_7
                   replace p112 := eq_true p112
                   replace q112 := eq_true q112
                   obtain ⟨Ao35, co35, eo35⟩ := Kd.R_slice HO_5.out
                   (first | subst eo35 | (injection eo35 with f1_ f2_ f3_; have f4_ := f1_.symm; have f5_ := f3_.symm; clear f1_ f2_ f3_; subst f4_; subst f5_))
                   have p113 : 0 ≤ ((rd l1 x21_2) : Int) := of_decide_eq_true ‹_›
                   have q113 : (rd l1 x21_2) < (x5_2.length : Int) := of_decide_eq_true ‹_›
                   obtain ⟨ad113, e113, hx113_0⟩ := Kd.at_int (Kd.R_reads' HO_5.out).2.2 (rd l1 x21_2) p113 q113
                   cases e113
                   replace p113 := eq_true p113
                   replace q113 := eq_true q113
                   have p114 : 0 ≤ ((rd l1 x21_2) : Int) := of_decide_eq_true ‹_›
                   have q114 : (rd l1 x21_2) < (l0.length : Int) := of_decide_eq_true ‹_›
                   obtain ⟨ad114, e114, hx114_0, hx114_1, hx114_2, hx114_3, hx114_4, hx114_5, hx114_6, hx114_7⟩ := at_T45 HR0.out (rd l1 x21_2) p114 q114
                   have hw114_7 := hx114_7
                   have hw114_6 := hx114_6
                   have hw114_5 := hx114_5
                   have hw114_4 := hx114_4
                   have hw114_3 := hx114_3
                   have hw114_2 := hx114_2
                   have hw114_1 := hx114_1
                   have hw114_0 := hx114_0
                   obtain rfl : ad111 = ad114 := (by injection e114)
                   replace hx114_0 := bl HB hx114_0
                   replace hx114_1 := bl HB hx114_1
                   replace hx114_2 := bl HB hx114_2
                   replace hx114_3 := bl HB hx114_3
                   replace hx114_4 := bl HB hx114_4
                   replace hx114_5 := bl HB hx114_5
                   replace hx114_6 := bl HB hx114_6
                   replace hx114_7 := bl HB hx114_7
                   replace p114 := eq_true p114
                   replace q114 := eq_true q114
                   refine start_ (n := 38) (S := fun w' => w'.cell? (ad111.add (((rd l1 x21_2)).toNat * 8)) = some (.string ((rd_T45 l0 (rd l1 x21_2)).f0)) ∧ w'.cell? ⟨(ad111.add (((rd l1 x21_2)).toNat * 8)).block, (ad111.add (((rd l1 x21_2)).toNat * 8)).off + 1, none⟩ = some (.int .i64 ((rd_T45 l0 (rd l1 x21_2)).f1)) ∧ w'.cell? ⟨(ad111.add (((rd l1 x21_2)).toNat * 8)).block, (ad111.add (((rd l1 x21_2)).toNat * 8)).off + 2, none⟩ = some (.int .i64 ((rd_T45 l0 (rd l1 x21_2)).f2)) ∧ w'.cell? ⟨(ad111.add (((rd l1 x21_2)).toNat * 8)).block, (ad111.add (((rd l1 x21_2)).toNat * 8)).off + 3, none⟩ = some (.int .i64 ((rd_T45 l0 (rd l1 x21_2)).f3)) ∧ w'.cell? ⟨(ad111.add (((rd l1 x21_2)).toNat * 8)).block, (ad111.add (((rd l1 x21_2)).toNat * 8)).off + 4, none⟩ = some (.int .i64 ((rd_T45 l0 (rd l1 x21_2)).f4)) ∧ w'.cell? ⟨(ad111.add (((rd l1 x21_2)).toNat * 8)).block, (ad111.add (((rd l1 x21_2)).toNat * 8)).off + 5, none⟩ = some (.int .i64 ((rd_T45 l0 (rd l1 x21_2)).f5)) ∧ w'.cell? ⟨(ad111.add (((rd l1 x21_2)).toNat * 8)).block, (ad111.add (((rd l1 x21_2)).toNat * 8)).off + 6, none⟩ = some (.int .i64 ((rd_T45 l0 (rd l1 x21_2)).f6)) ∧ w'.cell? ⟨(ad111.add (((rd l1 x21_2)).toNat * 8)).block, (ad111.add (((rd l1 x21_2)).toNat * 8)).off + 7, none⟩ = some (.bool ((rd_T45 l0 (rd l1 x21_2)).f7)) ∧ w'.cell? (ad111.add (((rd l1 x21_2)).toNat * 8)) = some (.string ((rd_T45 l0 (rd l1 x21_2)).f0)) ∧ w'.cell? ⟨(ad111.add (((rd l1 x21_2)).toNat * 8)).block, (ad111.add (((rd l1 x21_2)).toNat * 8)).off + 1, none⟩ = some (.int .i64 ((rd_T45 l0 (rd l1 x21_2)).f1)) ∧ w'.cell? ⟨(ad111.add (((rd l1 x21_2)).toNat * 8)).block, (ad111.add (((rd l1 x21_2)).toNat * 8)).off + 2, none⟩ = some (.int .i64 ((rd_T45 l0 (rd l1 x21_2)).f2)) ∧ w'.cell? ⟨(ad111.add (((rd l1 x21_2)).toNat * 8)).block, (ad111.add (((rd l1 x21_2)).toNat * 8)).off + 3, none⟩ = some (.int .i64 ((rd_T45 l0 (rd l1 x21_2)).f3)) ∧ w'.cell? ⟨(ad111.add (((rd l1 x21_2)).toNat * 8)).block, (ad111.add (((rd l1 x21_2)).toNat * 8)).off + 4, none⟩ = some (.int .i64 ((rd_T45 l0 (rd l1 x21_2)).f4)) ∧ w'.cell? ⟨(ad111.add (((rd l1 x21_2)).toNat * 8)).block, (ad111.add (((rd l1 x21_2)).toNat * 8)).off + 5, none⟩ = some (.int .i64 ((rd_T45 l0 (rd l1 x21_2)).f5)) ∧ w'.cell? ⟨(ad111.add (((rd l1 x21_2)).toNat * 8)).block, (ad111.add (((rd l1 x21_2)).toNat * 8)).off + 6, none⟩ = some (.int .i64 ((rd_T45 l0 (rd l1 x21_2)).f6)) ∧ w'.cell? ⟨(ad111.add (((rd l1 x21_2)).toNat * 8)).block, (ad111.add (((rd l1 x21_2)).toNat * 8)).off + 7, none⟩ = some (.bool ((rd_T45 l0 (rd l1 x21_2)).f7)) ∧ w'.cell? (ad113.add ((rd l1 x21_2)).toNat) = some (.int .i64 (rd x5_2 (rd l1 x21_2))) ∧ w'.cell? (ad111.add (((rd l1 x21_2)).toNat * 8)) = some (.string ((rd_T45 l0 (rd l1 x21_2)).f0)) ∧ w'.cell? ⟨(ad111.add (((rd l1 x21_2)).toNat * 8)).block, (ad111.add (((rd l1 x21_2)).toNat * 8)).off + 1, none⟩ = some (.int .i64 ((rd_T45 l0 (rd l1 x21_2)).f1)) ∧ w'.cell? ⟨(ad111.add (((rd l1 x21_2)).toNat * 8)).block, (ad111.add (((rd l1 x21_2)).toNat * 8)).off + 2, none⟩ = some (.int .i64 ((rd_T45 l0 (rd l1 x21_2)).f2)) ∧ w'.cell? ⟨(ad111.add (((rd l1 x21_2)).toNat * 8)).block, (ad111.add (((rd l1 x21_2)).toNat * 8)).off + 3, none⟩ = some (.int .i64 ((rd_T45 l0 (rd l1 x21_2)).f3)) ∧ w'.cell? ⟨(ad111.add (((rd l1 x21_2)).toNat * 8)).block, (ad111.add (((rd l1 x21_2)).toNat * 8)).off + 4, none⟩ = some (.int .i64 ((rd_T45 l0 (rd l1 x21_2)).f4)) ∧ w'.cell? ⟨(ad111.add (((rd l1 x21_2)).toNat * 8)).block, (ad111.add (((rd l1 x21_2)).toNat * 8)).off + 5, none⟩ = some (.int .i64 ((rd_T45 l0 (rd l1 x21_2)).f5)) ∧ w'.cell? ⟨(ad111.add (((rd l1 x21_2)).toNat * 8)).block, (ad111.add (((rd l1 x21_2)).toNat * 8)).off + 6, none⟩ = some (.int .i64 ((rd_T45 l0 (rd l1 x21_2)).f6)) ∧ w'.cell? ⟨(ad111.add (((rd l1 x21_2)).toNat * 8)).block, (ad111.add (((rd l1 x21_2)).toNat * 8)).off + 7, none⟩ = some (.bool ((rd_T45 l0 (rd l1 x21_2)).f7))) (ds := []) #[F,F,F,F,F,F,F,F,F,F,F,F,F,F,F,F,F,F,F,F,F,F,F,F,F,F,F,F,F,F,F,F,F,F,F,F,F,F] (by kernel_rfl) rfl rfl ⟨((HB.out.cell (World.block_lt_of_cell? w _ hw111_0)).trans hw111_0), ((HB.out.cell (World.block_lt_of_cell? w _ hw111_1)).trans hw111_1), ((HB.out.cell (World.block_lt_of_cell? w _ hw111_2)).trans hw111_2), ((HB.out.cell (World.block_lt_of_cell? w _ hw111_3)).trans hw111_3), ((HB.out.cell (World.block_lt_of_cell? w _ hw111_4)).trans hw111_4), ((HB.out.cell (World.block_lt_of_cell? w _ hw111_5)).trans hw111_5), ((HB.out.cell (World.block_lt_of_cell? w _ hw111_6)).trans hw111_6), ((HB.out.cell (World.block_lt_of_cell? w _ hw111_7)).trans hw111_7), ((HB.out.cell (World.block_lt_of_cell? w _ hw112_0)).trans hw112_0), ((HB.out.cell (World.block_lt_of_cell? w _ hw112_1)).trans hw112_1), ((HB.out.cell (World.block_lt_of_cell? w _ hw112_2)).trans hw112_2), ((HB.out.cell (World.block_lt_of_cell? w _ hw112_3)).trans hw112_3), ((HB.out.cell (World.block_lt_of_cell? w _ hw112_4)).trans hw112_4), ((HB.out.cell (World.block_lt_of_cell? w _ hw112_5)).trans hw112_5), ((HB.out.cell (World.block_lt_of_cell? w _ hw112_6)).trans hw112_6), ((HB.out.cell (World.block_lt_of_cell? w _ hw112_7)).trans hw112_7), hx113_0, ((HB.out.cell (World.block_lt_of_cell? w _ hw114_0)).trans hw114_0), ((HB.out.cell (World.block_lt_of_cell? w _ hw114_1)).trans hw114_1), ((HB.out.cell (World.block_lt_of_cell? w _ hw114_2)).trans hw114_2), ((HB.out.cell (World.block_lt_of_cell? w _ hw114_3)).trans hw114_3), ((HB.out.cell (World.block_lt_of_cell? w _ hw114_4)).trans hw114_4), ((HB.out.cell (World.block_lt_of_cell? w _ hw114_5)).trans hw114_5), ((HB.out.cell (World.block_lt_of_cell? w _ hw114_6)).trans hw114_6), ((HB.out.cell (World.block_lt_of_cell? w _ hw114_7)).trans hw114_7)⟩ (fun hHeld => ?_); refine with_tabW trace_Good.tab8 trace_Good.bits8 (fun HT_ HW_ => ?_)
                   generalize wr.drew = w34 at HO_5 HB hx111_0 hx111_1 hx111_2 hx111_3 hx111_4 hx111_5 hx111_6 hx111_7 hx112_0 hx112_1 hx112_2 hx112_3 hx112_4 hx112_5 hx112_6 hx112_7 hx113_0 hx114_0 hx114_1 hx114_2 hx114_3 hx114_4 hx114_5 hx114_6 hx114_7 hHeld ⊢
                   refine pure_ (i := 0) (N := some 28) (v := ?_) (a' := ?_) #[T,F,F,F,F,F,F,F,F,F,F,F,F,F,F,F,F,F,F,F,F,F,F,F,F,F,F,F,F,F,F,F,F,F,F,F,F,F] rfl rfl (any_of HT_.out (by kernel_rfl)) (fun _ _ _ h => h) (Or.inl ⟨by rfl, ?_⟩) ?_ ?_
                   rotate_left
                   ·intro w'
                    go_simp
                    with_reducible rfl
                   rotate_left
                   ·simp only [Act.put, List.setIfInBounds_toArray, List.set_cons_zero, List.set_cons_succ, i64_w, i32_w]
                    rfl
                   refine pure_ (i := 1) (N := some 29) (v := ?_) (a' := ?_) #[T,T,F,F,F,F,F,F,F,F,F,F,F,F,F,F,F,F,F,F,F,F,F,F,F,F,F,F,F,F,F,F,F,F,F,F,F,F] rfl rfl (any_of HT_.out (by kernel_rfl)) (fun _ _ _ h => h) (Or.inl ⟨by rfl, ?_⟩) ?_ ?_
                   rotate_left
                   ·intro w'
                    go_simp
                    with_reducible rfl
                   rotate_left
                   ·simp only [Act.put, List.setIfInBounds_toArray, List.set_cons_zero, List.set_cons_succ, i64_w, i32_w]
                    rfl
                   refine pure_ (i := 2) (N := some 30) (v := ?_) (a' := ?_) #[T,T,T,F,F,F,F,F,F,F,F,F,F,F,F,F,F,F,F,F,F,F,F,F,F,F,F,F,F,F,F,F,F,F,F,F,F,F] rfl rfl (any_of HT_.out (by kernel_rfl)) (fun _ _ _ h => h) (Or.inl ⟨by rfl, ?_⟩) ?_ ?_
                   rotate_left
                   ·intro w'
                    go_simp
                    with_reducible rfl
                   rotate_left
                   ·simp only [Act.put, List.setIfInBounds_toArray, List.set_cons_zero, List.set_cons_succ, i64_w, i32_w]
                    rfl
                   refine pure_ (i := 3) (N := some 31) (v := ?_) (a' := ?_) #[T,T,T,T,F,F,F,F,F,F,F,F,F,F,F,F,F,F,F,F,F,F,F,F,F,F,F,F,F,F,F,F,F,F,F,F,F,F] rfl rfl (any_of HT_.out (by kernel_rfl)) (fun _ _ _ h => h) (Or.inl ⟨by rfl, ?_⟩) ?_ ?_
                   rotate_left
                   ·intro w'
                    go_simp
                    with_reducible rfl
                   rotate_left
                   ·simp only [Act.put, List.setIfInBounds_toArray, List.set_cons_zero, List.set_cons_succ, i64_w, i32_w]
                    rfl
                   refine pure_ (i := 4) (N := some 32) (v := ?_) (a' := ?_) #[T,T,T,T,T,F,F,F,F,F,F,F,F,F,F,F,F,F,F,F,F,F,F,F,F,F,F,F,F,F,F,F,F,F,F,F,F,F] rfl rfl (any_of HT_.out (by kernel_rfl)) (fun _ _ _ h => h) (Or.inl ⟨by rfl, ?_⟩) ?_ ?_
                   rotate_left
                   ·intro w'
                    go_simp
                    with_reducible rfl
                   rotate_left
                   ·simp only [Act.put, List.setIfInBounds_toArray, List.set_cons_zero, List.set_cons_succ, i64_w, i32_w]
                    rfl
                   refine pure_ (i := 5) (N := some 33) (v := ?_) (a' := ?_) #[T,T,T,T,T,T,F,F,F,F,F,F,F,F,F,F,F,F,F,F,F,F,F,F,F,F,F,F,F,F,F,F,F,F,F,F,F,F] rfl rfl (any_of HT_.out (by kernel_rfl)) (fun _ _ _ h => h) (Or.inl ⟨by rfl, ?_⟩) ?_ ?_
                   rotate_left
                   ·intro w'
                    go_simp
                    with_reducible rfl
                   rotate_left
                   ·simp only [Act.put, List.setIfInBounds_toArray, List.set_cons_zero, List.set_cons_succ, i64_w, i32_w]
                    rfl
                   refine pure_ (i := 6) (N := some 34) (v := ?_) (a' := ?_) #[T,T,T,T,T,T,T,F,F,F,F,F,F,F,F,F,F,F,F,F,F,F,F,F,F,F,F,F,F,F,F,F,F,F,F,F,F,F] rfl rfl (any_of HT_.out (by kernel_rfl)) (fun _ _ _ h => h) (Or.inl ⟨by rfl, ?_⟩) ?_ ?_
                   rotate_left
                   ·intro w'
                    go_simp
                    with_reducible rfl
                   rotate_left
                   ·simp only [Act.put, List.setIfInBounds_toArray, List.set_cons_zero, List.set_cons_succ, i64_w, i32_w]
                    rfl
                   refine pure_ (i := 7) (N := some 35) (v := ?_) (a' := ?_) #[T,T,T,T,T,T,T,T,F,F,F,F,F,F,F,F,F,F,F,F,F,F,F,F,F,F,F,F,F,F,F,F,F,F,F,F,F,F] rfl rfl (any_of HT_.out (by kernel_rfl)) (fun _ _ _ h => h) (Or.inl ⟨by rfl, ?_⟩) ?_ ?_
                   rotate_left
                   ·intro w'
                    go_simp
                    with_reducible rfl
                   rotate_left
                   ·simp only [Act.put, List.setIfInBounds_toArray, List.set_cons_zero, List.set_cons_succ, i64_w, i32_w]
                    rfl
                   refine pure_ (i := 8) (N := some 36) (v := ?_) (a' := ?_) #[T,T,T,T,T,T,T,T,T,F,F,F,F,F,F,F,F,F,F,F,F,F,F,F,F,F,F,F,F,F,F,F,F,F,F,F,F,F] rfl rfl (any_of HT_.out (by kernel_rfl)) (fun _ _ _ h => h) (Or.inl ⟨by rfl, ?_⟩) ?_ ?_
                   rotate_left
                   ·intro w'
                    go_simp
                    with_reducible rfl
                   rotate_left
                   ·simp only [Act.put, List.setIfInBounds_toArray, List.set_cons_zero, List.set_cons_succ, i64_w, i32_w]
                    rfl
                   refine pure_ (i := 9) (N := some 37) (v := ?_) (a' := ?_) #[T,T,T,T,T,T,T,T,T,T,F,F,F,F,F,F,F,F,F,F,F,F,F,F,F,F,F,F,F,F,F,F,F,F,F,F,F,F] rfl rfl (any_of HT_.out (by kernel_rfl)) (fun _ _ _ h => h) (Or.inl ⟨by rfl, ?_⟩) ?_ ?_
                   rotate_left
                   ·intro w'
                    go_simp
                    with_reducible rfl
                   rotate_left
                   ·simp only [Act.put, List.setIfInBounds_toArray, List.set_cons_zero, List.set_cons_succ, i64_w, i32_w]
                    rfl
                   refine pure_ (i := 10) (N := some 38) (v := ?_) (a' := ?_) #[T,T,T,T,T,T,T,T,T,T,T,F,F,F,F,F,F,F,F,F,F,F,F,F,F,F,F,F,F,F,F,F,F,F,F,F,F,F] rfl rfl (any_of HT_.out (by kernel_rfl)) (fun _ _ _ h => h) (Or.inl ⟨by rfl, ?_⟩) ?_ ?_
                   rotate_left
                   ·intro w'
                    go_simp
                    with_reducible rfl
                   rotate_left
                   ·simp only [Act.put, List.setIfInBounds_toArray, List.set_cons_zero, List.set_cons_succ, i64_w, i32_w]
                    rfl
                   refine pure_ (i := 11) (N := some 39) (v := ?_) (a' := ?_) #[T,T,T,T,T,T,T,T,T,T,T,T,F,F,F,F,F,F,F,F,F,F,F,F,F,F,F,F,F,F,F,F,F,F,F,F,F,F] rfl rfl (any_of HT_.out (by kernel_rfl)) (fun _ _ _ h => h) (Or.inl ⟨by rfl, ?_⟩) ?_ ?_
                   rotate_left
                   ·intro w'
                    go_simp
                    with_reducible rfl
                   rotate_left
                   ·simp only [Act.put, List.setIfInBounds_toArray, List.set_cons_zero, List.set_cons_succ, i64_w, i32_w]
                    rfl
                   refine pure_ (i := 12) (N := some 40) (v := ?_) (a' := ?_) #[T,T,T,T,T,T,T,T,T,T,T,T,T,F,F,F,F,F,F,F,F,F,F,F,F,F,F,F,F,F,F,F,F,F,F,F,F,F] rfl rfl (any_of HT_.out (by kernel_rfl)) (fun _ _ _ h => h) (Or.inl ⟨by rfl, ?_⟩) ?_ ?_
                   rotate_left
                   ·intro w'
                    go_simp
                    with_reducible rfl
                   rotate_left
                   ·simp only [Act.put, List.setIfInBounds_toArray, List.set_cons_zero, List.set_cons_succ, i64_w, i32_w]
                    rfl
                   refine pure_ (i := 13) (N := some 41) (v := ?_) (a' := ?_) #[T,T,T,T,T,T,T,T,T,T,T,T,T,T,F,F,F,F,F,F,F,F,F,F,F,F,F,F,F,F,F,F,F,F,F,F,F,F] rfl rfl (any_of HT_.out (by kernel_rfl)) (fun _ _ _ h => h) (Or.inl ⟨by rfl, ?_⟩) ?_ ?_
                   rotate_left
                   ·intro w'
                    go_simp
                    with_reducible rfl
                   rotate_left
                   ·simp only [Act.put, List.setIfInBounds_toArray, List.set_cons_zero, List.set_cons_succ, i64_w, i32_w]
                    rfl
                   refine take_ (i := 14) (N := some 42) (v := ?_) (a' := ?_) #[T,T,T,T,T,T,T,T,T,T,T,T,T,T,T,F,F,F,F,F,F,F,F,F,F,F,F,F,F,F,F,F,F,F,F,F,F,F] rfl rfl (take_ofW HT_.out HW_.out (by kernel_rfl)) (fun _ _ _ h => h) (Or.inl ⟨by rfl, ?_⟩) hHeld ?_ ?_
                   rotate_left
                   ·rintro w' ⟨s0, s1, s2, s3, s4, s5, s6, s7, s8, s9, s10, s11, s12, s13, s14, s15, s16, s17, s18, s19, s20, s21, s22, s23, s24⟩
                    go_simp
                    with_reducible rfl
                   rotate_left
                   ·simp only [Act.put, List.setIfInBounds_toArray, List.set_cons_zero, List.set_cons_succ, i64_w, i32_w]
                    rfl
                   refine pure_ (i := 15) (N := some 43) (v := ?_) (a' := ?_) #[T,T,T,T,T,T,T,T,T,T,T,T,T,T,T,T,F,F,F,F,F,F,F,F,F,F,F,F,F,F,F,F,F,F,F,F,F,F] rfl rfl (any_of HT_.out (by kernel_rfl)) (fun _ _ _ h => h) (Or.inl ⟨by rfl, ?_⟩) ?_ ?_
                   rotate_left
                   ·intro w'
                    go_simp
                    with_reducible rfl
                   rotate_left
                   ·simp only [Act.put, List.setIfInBounds_toArray, List.set_cons_zero, List.set_cons_succ, i64_w, i32_w]
                    rfl
                   refine pure_ (i := 16) (N := some 44) (v := ?_) (a' := ?_) #[T,T,T,T,T,T,T,T,T,T,T,T,T,T,T,T,T,F,F,F,F,F,F,F,F,F,F,F,F,F,F,F,F,F,F,F,F,F] rfl rfl (any_of HT_.out (by kernel_rfl)) (fun _ _ _ h => h) (Or.inl ⟨by rfl, ?_⟩) ?_ ?_
                   rotate_left
                   ·intro w'
                    go_simp
                    with_reducible rfl
                   rotate_left
                   ·simp only [Act.put, List.setIfInBounds_toArray, List.set_cons_zero, List.set_cons_succ, i64_w, i32_w]
                    rfl
                   refine pure_ (i := 17) (N := some 45) (v := ?_) (a' := ?_) #[T,T,T,T,T,T,T,T,T,T,T,T,T,T,T,T,T,T,F,F,F,F,F,F,F,F,F,F,F,F,F,F,F,F,F,F,F,F] rfl rfl (any_of HT_.out (by kernel_rfl)) (fun _ _ _ h => h) (Or.inl ⟨by rfl, ?_⟩) ?_ ?_
                   rotate_left
                   ·intro w'
                    go_simp
                    with_reducible rfl
                   rotate_left
                   ·simp only [Act.put, List.setIfInBounds_toArray, List.set_cons_zero, List.set_cons_succ, i64_w, i32_w]
                    rfl
                   refine pure_ (i := 18) (N := some 46) (v := ?_) (a' := ?_) #[T,T,T,T,T,T,T,T,T,T,T,T,T,T,T,T,T,T,T,F,F,F,F,F,F,F,F,F,F,F,F,F,F,F,F,F,F,F] rfl rfl (any_of HT_.out (by kernel_rfl)) (fun _ _ _ h => h) (Or.inl ⟨by rfl, ?_⟩) ?_ ?_
                   rotate_left
                   ·intro w'
                    go_simp
                    with_reducible rfl
                   rotate_left
                   ·simp only [Act.put, List.setIfInBounds_toArray, List.set_cons_zero, List.set_cons_succ, i64_w, i32_w]
                    rfl
                   refine pure_ (i := 19) (N := some 47) (v := ?_) (a' := ?_) #[T,T,T,T,T,T,T,T,T,T,T,T,T,T,T,T,T,T,T,T,F,F,F,F,F,F,F,F,F,F,F,F,F,F,F,F,F,F] rfl rfl (any_of HT_.out (by kernel_rfl)) (fun _ _ _ h => h) (Or.inl ⟨by rfl, ?_⟩) ?_ ?_
                   rotate_left
                   ·intro w'
                    go_simp
                    with_reducible rfl
                   rotate_left
                   ·simp only [Act.put, List.setIfInBounds_toArray, List.set_cons_zero, List.set_cons_succ, i64_w, i32_w]
                    rfl
                   refine pure_ (i := 20) (N := some 48) (v := ?_) (a' := ?_) #[T,T,T,T,T,T,T,T,T,T,T,T,T,T,T,T,T,T,T,T,T,F,F,F,F,F,F,F,F,F,F,F,F,F,F,F,F,F] rfl rfl (any_of HT_.out (by kernel_rfl)) (fun _ _ _ h => h) (Or.inl ⟨by rfl, ?_⟩) ?_ ?_
                   rotate_left
                   ·intro w'
                    go_simp
                    with_reducible rfl
                   rotate_left
                   ·simp only [Act.put, List.setIfInBounds_toArray, List.set_cons_zero, List.set_cons_succ, i64_w, i32_w]
                    rfl
                   refine pure_ (i := 21) (N := some 49) (v := ?_) (a' := ?_) #[T,T,T,T,T,T,T,T,T,T,T,T,T,T,T,T,T,T,T,T,T,T,F,F,F,F,F,F,F,F,F,F,F,F,F,F,F,F] rfl rfl (any_of HT_.out (by kernel_rfl)) (fun _ _ _ h => h) (Or.inl ⟨by rfl, ?_⟩) ?_ ?_
                   rotate_left
                   ·intro w'
                    go_simp
                    with_reducible rfl
                   rotate_left
                   ·simp only [Act.put, List.setIfInBounds_toArray, List.set_cons_zero, List.set_cons_succ, i64_w, i32_w]
                    rfl
                   refine pure_ (i := 22) (N := some 50) (v := ?_) (a' := ?_) #[T,T,T,T,T,T,T,T,T,T,T,T,T,T,T,T,T,T,T,T,T,T,T,F,F,F,F,F,F,F,F,F,F,F,F,F,F,F] rfl rfl (any_of HT_.out (by kernel_rfl)) (fun _ _ _ h => h) (Or.inl ⟨by rfl, ?_⟩) ?_ ?_
                   rotate_left
                   ·intro w'
                    go_simp
                    with_reducible rfl
                   rotate_left
                   ·simp only [Act.put, List.setIfInBounds_toArray, List.set_cons_zero, List.set_cons_succ, i64_w, i32_w]
                    rfl
                   refine take_ (i := 23) (N := some 51) (v := ?_) (a' := ?_) #[T,T,T,T,T,T,T,T,T,T,T,T,T,T,T,T,T,T,T,T,T,T,T,T,F,F,F,F,F,F,F,F,F,F,F,F,F,F] rfl rfl (take_ofW HT_.out HW_.out (by kernel_rfl)) (fun _ _ _ h => h) (Or.inl ⟨by rfl, ?_⟩) hHeld ?_ ?_
                   rotate_left
                   ·rintro w' ⟨s0, s1, s2, s3, s4, s5, s6, s7, s8, s9, s10, s11, s12, s13, s14, s15, s16, s17, s18, s19, s20, s21, s22, s23, s24⟩
                    go_simp
                    with_reducible rfl
                   rotate_left
                   ·simp only [Act.put, List.setIfInBounds_toArray, List.set_cons_zero, List.set_cons_succ, i64_w, i32_w]
                    rfl
                   refine pure_ (i := 24) (N := some 52) (v := ?_) (a' := ?_) #[T,T,T,T,T,T,T,T,T,T,T,T,T,T,T,T,T,T,T,T,T,T,T,T,T,F,F,F,F,F,F,F,F,F,F,F,F,F] rfl rfl (any_of HT_.out (by kernel_rfl)) (fun _ _ _ h => h) (Or.inl ⟨by rfl, ?_⟩) ?_ ?_
                   rotate_left
                   ·intro w'
                    go_simp
                    with_reducible rfl
                   rotate_left
                   ·simp only [Act.put, List.setIfInBounds_toArray, List.set_cons_zero, List.set_cons_succ, i64_w, i32_w]
                    rfl
                   refine pure_ (i := 25) (N := some 53) (v := ?_) (a' := ?_) #[T,T,T,T,T,T,T,T,T,T,T,T,T,T,T,T,T,T,T,T,T,T,T,T,T,T,F,F,F,F,F,F,F,F,F,F,F,F] rfl rfl (any_of HT_.out (by kernel_rfl)) (fun _ _ _ h => h) (Or.inl ⟨by rfl, ?_⟩) ?_ ?_
                   rotate_left
                   ·intro w'
                    go_simp
                    with_reducible rfl
                   rotate_left
                   ·simp only [Act.put, List.setIfInBounds_toArray, List.set_cons_zero, List.set_cons_succ, i64_w, i32_w]
                    rfl
                   refine pure_ (i := 26) (N := some 54) (v := ?_) (a' := ?_) #[T,T,T,T,T,T,T,T,T,T,T,T,T,T,T,T,T,T,T,T,T,T,T,T,T,T,T,F,F,F,F,F,F,F,F,F,F,F] rfl rfl (any_of HT_.out (by kernel_rfl)) (fun _ _ _ h => h) (Or.inl ⟨by rfl, ?_⟩) ?_ ?_
                   rotate_left
                   ·intro w'
                    go_simp
                    with_reducible rfl
                   rotate_left
                   ·simp only [Act.put, List.setIfInBounds_toArray, List.set_cons_zero, List.set_cons_succ, i64_w, i32_w]
                    rfl
                   refine pure_ (i := 27) (N := some 55) (v := ?_) (a' := ?_) #[T,T,T,T,T,T,T,T,T,T,T,T,T,T,T,T,T,T,T,T,T,T,T,T,T,T,T,T,F,F,F,F,F,F,F,F,F,F] rfl rfl (any_of HT_.out (by kernel_rfl)) (fun _ _ _ h => h) (Or.inl ⟨by rfl, ?_⟩) ?_ ?_
                   rotate_left
                   ·intro w'
                    go_simp
                    with_reducible rfl
                   rotate_left
                   ·simp only [Act.put, List.setIfInBounds_toArray, List.set_cons_zero, List.set_cons_succ, i64_w, i32_w]
                    rfl
                   refine pure_ (i := 28) (N := some 56) (v := ?_) (a' := ?_) #[T,T,T,T,T,T,T,T,T,T,T,T,T,T,T,T,T,T,T,T,T,T,T,T,T,T,T,T,T,F,F,F,F,F,F,F,F,F] rfl rfl (any_of HT_.out (by kernel_rfl)) (fun _ _ _ h => h) (Or.inl ⟨by rfl, ?_⟩) ?_ ?_
                   rotate_left
                   ·intro w'
                    go_simp
                    with_reducible rfl
                   rotate_left
                   ·simp only [Act.put, List.setIfInBounds_toArray, List.set_cons_zero, List.set_cons_succ, i64_w, i32_w]
                    rfl
                   refine pure_ (i := 29) (N := some 57) (v := ?_) (a' := ?_) #[T,T,T,T,T,T,T,T,T,T,T,T,T,T,T,T,T,T,T,T,T,T,T,T,T,T,T,T,T,T,F,F,F,F,F,F,F,F] rfl rfl (any_of HT_.out (by kernel_rfl)) (fun _ _ _ h => h) (Or.inl ⟨by rfl, ?_⟩) ?_ ?_
                   rotate_left
                   ·intro w'
                    go_simp
                    with_reducible rfl
                   rotate_left
                   ·simp only [Act.put, List.setIfInBounds_toArray, List.set_cons_zero, List.set_cons_succ, i64_w, i32_w]
                    rfl
                   refine pure_ (i := 31) (N := some 59) (v := ?_) (a' := ?_) #[T,T,T,T,T,T,T,T,T,T,T,T,T,T,T,T,T,T,T,T,T,T,T,T,T,T,T,T,T,T,F,T,F,F,F,F,F,F] rfl rfl (any_of HT_.out (by kernel_rfl)) (fun _ _ _ h => h) (Or.inl ⟨by rfl, ?_⟩) ?_ ?_
                   rotate_left
                   ·intro w'
                    go_simp
                    with_reducible rfl
                   rotate_left
                   ·simp only [Act.put, List.setIfInBounds_toArray, List.set_cons_zero, List.set_cons_succ, i64_w, i32_w]
                    rfl
                   refine pure_ (i := 32) (N := some 60) (v := ?_) (a' := ?_) #[T,T,T,T,T,T,T,T,T,T,T,T,T,T,T,T,T,T,T,T,T,T,T,T,T,T,T,T,T,T,F,T,T,F,F,F,F,F] rfl rfl (any_of HT_.out (by kernel_rfl)) (fun _ _ _ h => h) (Or.inl ⟨by rfl, ?_⟩) ?_ ?_
                   rotate_left
                   ·intro w'
                    go_simp
                    with_reducible rfl
                   rotate_left
                   ·simp only [Act.put, List.setIfInBounds_toArray, List.set_cons_zero, List.set_cons_succ, i64_w, i32_w]
                    rfl
                   refine pure_ (i := 33) (N := some 61) (v := ?_) (a' := ?_) #[T,T,T,T,T,T,T,T,T,T,T,T,T,T,T,T,T,T,T,T,T,T,T,T,T,T,T,T,T,T,F,T,T,T,F,F,F,F] rfl rfl (any_of HT_.out (by kernel_rfl)) (fun _ _ _ h => h) (Or.inl ⟨by rfl, ?_⟩) ?_ ?_
                   rotate_left
                   ·intro w'
                    go_simp
                    with_reducible rfl
                   rotate_left
                   ·simp only [Act.put, List.setIfInBounds_toArray, List.set_cons_zero, List.set_cons_succ, i64_w, i32_w]
                    rfl
                   refine take_ (i := 30) (N := some 58) (v := ?_) (a' := ?_) #[T,T,T,T,T,T,T,T,T,T,T,T,T,T,T,T,T,T,T,T,T,T,T,T,T,T,T,T,T,T,T,T,T,T,F,F,F,F] rfl rfl (take_ofW HT_.out HW_.out (by kernel_rfl)) (fun _ _ _ h => h) (Or.inl ⟨by rfl, ?_⟩) hHeld ?_ ?_
                   rotate_left
                   ·rintro w' ⟨s0, s1, s2, s3, s4, s5, s6, s7, s8, s9, s10, s11, s12, s13, s14, s15, s16, s17, s18, s19, s20, s21, s22, s23, s24⟩
                    go_simp
                    with_reducible rfl
                   rotate_left
                   ·simp only [Act.put, List.setIfInBounds_toArray, List.set_cons_zero, List.set_cons_succ, i64_w, i32_w]
                    rfl
                   refine take_ (i := 34) (N := some 62) (v := ?_) (a' := ?_) #[T,T,T,T,T,T,T,T,T,T,T,T,T,T,T,T,T,T,T,T,T,T,T,T,T,T,T,T,T,T,T,T,T,T,T,F,F,F] rfl rfl (take_ofW HT_.out HW_.out (by kernel_rfl)) (fun _ _ _ h => h) (Or.inl ⟨by rfl, ?_⟩) hHeld ?_ ?_
                   rotate_left
                   ·rintro w' ⟨s0, s1, s2, s3, s4, s5, s6, s7, s8, s9, s10, s11, s12, s13, s14, s15, s16, s17, s18, s19, s20, s21, s22, s23, s24⟩
                    go_simp
                    with_reducible rfl
                   rotate_left
                   ·simp only [Act.put, List.setIfInBounds_toArray, List.set_cons_zero, List.set_cons_succ, i64_w, i32_w]
                    rfl
                   refine one_ (i := 35) (N := some 63) #[true, true, true, true, true, true, true, true, true, true, true, true, true, true, true, true, true, true, true, true, true, true, true, true, true, true, true, true, true, true, true, true, true, true, true, true, false, false] rfl rfl (one_of HT_.out (by kernel_rfl)) (by decide) (fun K hK => ?_)
                   refine goes_ Tryz.func36 (by kernel_rfl) rfl #[.agg #[.string ((rd_T45 l0 (rd l1 x21_2)).f0), .int .i64 ((rd_T45 l0 (rd l1 x21_2)).f1), .int .i64 ((rd_T45 l0 (rd l1 x21_2)).f2), .int .i64 ((rd_T45 l0 (rd l1 x21_2)).f3), .int .i64 ((rd_T45 l0 (rd l1 x21_2)).f4), .int .i64 ((rd_T45 l0 (rd l1 x21_2)).f5), .int .i64 ((rd_T45 l0 (rd l1 x21_2)).f6), .bool ((rd_T45 l0 (rd l1 x21_2)).f7)]] (by rfl) rfl rfl (by (try simp only [List.map_toArray, List.map_cons, List.map_nil]); first | done | rfl | (simp only [List.length_drop, List.length_take]; rfl)) ?_
                   with_reducible refine (job_Work.calls ((rd_T45 l0 (rd l1 x21_2)).f0) ((rd_T45 l0 (rd l1 x21_2)).f1) ((rd_T45 l0 (rd l1 x21_2)).f2) ((rd_T45 l0 (rd l1 x21_2)).f3) ((rd_T45 l0 (rd l1 x21_2)).f4) ((rd_T45 l0 (rd l1 x21_2)).f5) ((rd_T45 l0 (rd l1 x21_2)).f6) ((rd_T45 l0 (rd l1 x21_2)).f7) t115 _ (tab_below HTb.out (bel HB)) A28.out).mono ?_
                   rintro e w36 ⟨rfl, hb⟩
                   have HS16_ := (hb.cell (World.block_lt_of_cell? _ _ (hHeld.2.2.2.2.2.2.2.2.2.2.2.2.2.2.2.2.1))).trans (hHeld.2.2.2.2.2.2.2.2.2.2.2.2.2.2.2.2.1)
                   refine ⟨_, rfl, ?_⟩
                   have n0_ := Aside0.mk (Kd.R_below (by (with_reducible repeat (first | apply Kd.R_alloc | apply Kd.R_drewN | apply Kd.R_drew)); exact HO_5.out) hb)
                   have n1_ := Aside0.mk (below_step (bel HB) hb)
                   clear HO_5
                   clear HB
                   have HO_5 := n0_
                   have HB := n1_
                   clear n0_ n1_
                   (try clear hb)
                   (try clear hb2)
                   (try clear hk)
                   (try clear hi)
                   refine hK.out _ _ ⟨((HB.out.cell (World.block_lt_of_cell? w _ hw111_0)).trans hw111_0), ((HB.out.cell (World.block_lt_of_cell? w _ hw111_1)).trans hw111_1), ((HB.out.cell (World.block_lt_of_cell? w _ hw111_2)).trans hw111_2), ((HB.out.cell (World.block_lt_of_cell? w _ hw111_3)).trans hw111_3), ((HB.out.cell (World.block_lt_of_cell? w _ hw111_4)).trans hw111_4), ((HB.out.cell (World.block_lt_of_cell? w _ hw111_5)).trans hw111_5), ((HB.out.cell (World.block_lt_of_cell? w _ hw111_6)).trans hw111_6), ((HB.out.cell (World.block_lt_of_cell? w _ hw111_7)).trans hw111_7), ((HB.out.cell (World.block_lt_of_cell? w _ hw112_0)).trans hw112_0), ((HB.out.cell (World.block_lt_of_cell? w _ hw112_1)).trans hw112_1), ((HB.out.cell (World.block_lt_of_cell? w _ hw112_2)).trans hw112_2), ((HB.out.cell (World.block_lt_of_cell? w _ hw112_3)).trans hw112_3), ((HB.out.cell (World.block_lt_of_cell? w _ hw112_4)).trans hw112_4), ((HB.out.cell (World.block_lt_of_cell? w _ hw112_5)).trans hw112_5), ((HB.out.cell (World.block_lt_of_cell? w _ hw112_6)).trans hw112_6), ((HB.out.cell (World.block_lt_of_cell? w _ hw112_7)).trans hw112_7), HS16_, ((HB.out.cell (World.block_lt_of_cell? w _ hw114_0)).trans hw114_0), ((HB.out.cell (World.block_lt_of_cell? w _ hw114_1)).trans hw114_1), ((HB.out.cell (World.block_lt_of_cell? w _ hw114_2)).trans hw114_2), ((HB.out.cell (World.block_lt_of_cell? w _ hw114_3)).trans hw114_3), ((HB.out.cell (World.block_lt_of_cell? w _ hw114_4)).trans hw114_4), ((HB.out.cell (World.block_lt_of_cell? w _ hw114_5)).trans hw114_5), ((HB.out.cell (World.block_lt_of_cell? w _ hw114_6)).trans hw114_6), ((HB.out.cell (World.block_lt_of_cell? w _ hw114_7)).trans hw114_7)⟩ (fun hHeld => ?_)
                   clear hK K
                   refine norm_ (a' := ?_) ?_ ?_
                   rotate_left
                   ·show Act.put _ (some 63) _ = _
                    simp only [Act.put, List.setIfInBounds_toArray, List.set_cons_zero, List.set_cons_succ, i64_w, i32_w]
                    rfl
                   refine pure_ (i := 36) (N := some 64) (v := ?_) (a' := ?_) #[T,T,T,T,T,T,T,T,T,T,T,T,T,T,T,T,T,T,T,T,T,T,T,T,T,T,T,T,T,T,T,T,T,T,T,T,T,F] rfl rfl (any_of HT_.out (by kernel_rfl)) (fun _ _ _ h => h) (Or.inl ⟨by rfl, ?_⟩) ?_ ?_
                   rotate_left
                   ·intro w'
                    go_simp
                    with_reducible rfl
                   rotate_left
                   ·simp only [Act.put, List.setIfInBounds_toArray, List.set_cons_zero, List.set_cons_succ, i64_w, i32_w]
                    rfl
                   refine pure_ (i := 37) (N := some 65) (v := ?_) (a' := ?_) #[T,T,T,T,T,T,T,T,T,T,T,T,T,T,T,T,T,T,T,T,T,T,T,T,T,T,T,T,T,T,T,T,T,T,T,T,T,T] rfl rfl (any_of HT_.out (by kernel_rfl)) (fun _ _ _ h => h) (Or.inl ⟨by rfl, ?_⟩) ?_ ?_
                   rotate_left
                   ·intro w'
                    go_simp
                    with_reducible rfl
                   rotate_left
                   ·simp only [Act.put, List.setIfInBounds_toArray, List.set_cons_zero, List.set_cons_succ, i64_w, i32_w]
                    rfl
                   refine done_ (done_of HT_.out (by kernel_rfl)) ?_
                   have H := HH_.out
                   clear HH_
                   by_cases c29 : (rd x5_2 (rd l1 x21_2)) ≥ t115
                   ·rw [if_pos c29] at H
                    have c29b0 : decide (t115 ≤ (rd x5_2 (rd l1 x21_2))) = true := decide_eq_true c29
                    rw [c29b0]
                    clear c29
                    obtain rfl := Option.some.inj H
                    try go_wp2
                    go_ret
                    exact ⟨by first | rfl | (simp [*] <;> rfl), bel HB⟩
                   ·rw [if_neg c29] at H
                    have c29b0 : decide (t115 ≤ (rd x5_2 (rd l1 x21_2))) = false := decide_eq_false c29
                    rw [c29b0]
                    clear c29
                    obtain ⟨y117, hy117⟩ : ∃ y_ : List Int, y_ = (x5_2.set ((rd l1 x21_2) : Int).toNat (wrap64 ((rd x5_2 (rd l1 x21_2)) + 1))) := ⟨_, rfl⟩
                    replace H : (trace_Good.l0 k2 l0 y117 l1 (l1.length : Int) (wrap64 (x21_2 + 1))) = some r := by first | (rw [hy117]; with_reducible exact H) | (have H2_ := (Option.bind_some _ _).symm.trans H; rw [hy117]; with_reducible exact H2_) | (have H2_ := (Option.bind_some _ _).symm.trans H; with_reducible exact H2_) | with_reducible exact H | (rw [hy117]; exact H) | exact H
                    have Ny117 := Aside0.mk hy117
                    clear hy117
                    have H' := Aside0.mk H
                    clear H
                    have p116 : 0 ≤ ((rd l1 x21_2) : Int) := of_decide_eq_true ‹_›
                    have q116 : (rd l1 x21_2) < (x5_2.length : Int) := of_decide_eq_true ‹_›
                    obtain ⟨ad116, e116, hx116_0⟩ := Kd.at_int (Kd.R_reads' HO_5.out).2.2 (rd l1 x21_2) p116 q116
                    obtain rfl : ad113 = ad116 := (by injection e116)
                    replace p116 := eq_true p116
                    replace q116 := eq_true q116
                    have p33 : 0 ≤ ((rd l1 x21_2) : Int) := of_decide_eq_true ‹_›
                    have q33 : ((rd l1 x21_2) : Int) < ((x5_2.length : Int) : Int) := of_decide_eq_true ‹_›
                    obtain ⟨go33, co33, eo33, gb33, gl33, cl33, HG33⟩ := Kd.R_form HO_5.out (by omega)
                    (first | cases eo33 | (injection eo33 with ea_ en_ ec_; (first | subst ea_ | (injection ea_ with ea_; subst ea_)); subst ec_; clear en_))
                    have GB33 := Aside0.mk gb33
                    have GG33 := Aside0.mk HG33
                    clear gb33 gl33 HG33
                    (first | simp only [add_plain] at hx113_0 | skip)
                    (first | simp only [add_plain] at hx116_0 | skip)
                    obtain ⟨hx33_0, hf33_0⟩ := Kd.R_celln 0 HO_5.out ((rd l1 x21_2) : Int) p33 q33
                    replace p33 := eq_true p33
                    replace q33 := eq_true q33
                    obtain ⟨hy37_, hz37_⟩ := Kd.R_celln 0 HO_5.out ((rd l1 x21_2) : Int) (of_decide_eq_true ‹_›) (of_decide_eq_true ‹_›)
                    have HP37 := Kd.R_putg HO_5.out ((rd l1 x21_2) : Int) (wrap64 ((rd x5_2 (rd l1 x21_2)) + 1))
                    try go_wp2_with (first | ((with_reducible refine gate_store (t := 3) (p := 71) rfl ?_); refine store_event (t := 3) (p := 71) (v := ?vo_w38) (w1 := (w36.setCell ⟨go33, ((rd l1 x21_2) : Int).toNat, none⟩ (.int .i64 (wrap64 ((rd x5_2 (rd l1 x21_2)) + 1))))) ?hg ?ho ?hn ?hr ?_; (case ho => rfl); (case hg => rfl); (case hn => rfl); (case hr => first | (go_simp; done) | (go_simp; rfl)); intro w38 hw; have hg : w36.grownBy w38 (some go33) := (by rw [hw]; exact HP37.2); have hp_ : Kd.R (Kd.int .i64) 3 w38 w.heap.size (fun _ => True) (.slice (some ⟨go33, 0, none⟩) x5_2.length co35) y117 := (by rw [hw, Ny117.out]; exact HP37.1); clear HP37; have n0_ := Aside0.mk (hp_); have n1_ := Aside0.mk ((by rw [hw]; exact below_set (HB.out) GB33.out : Below w.heap.size w w38)); clear HO_5; clear HB; have HO_5 := n0_; have HB := n1_; clear n0_ n1_; clear hg hw hp_))
                    go_roundg k2
                    case measure => have := HJ2.out; have := HK2.out; omega
                    case rel => exact ⟨(y117), (wrap64 (x21_2 + 1)), (by first | rfl | simp [*]), H', ⟨by have := HJ2.out; have := HK2.out; omega⟩, ⟨by (with_reducible repeat (first | apply Kd.R_alloc | apply Kd.R_drewN | apply Kd.R_drew)); exact HO_5.out⟩, ⟨bel HB⟩⟩
                  ·rw [if_neg c27] at H
                   exact absurd H (by simp)
               ·rw [if_neg c22] at H
                exact absurd H (by simp)
              ·rw [if_neg c21] at H
               exact absurd H (by simp)
          ·rw [if_neg c15] at H
           exact absurd H (by simp)
         ·rw [if_neg c14] at H
          exact absurd H (by simp)
        ·rw [if_neg c13] at H
         have c13b0 : decide (x21_2 < (l1.length : Int)) = false := decide_eq_false c13
         clear c13
         obtain rfl := Option.some.inj H
         go_wp2
         go_ret
         exact ⟨by first | rfl | (simp [*] <;> rfl), bel HB⟩
     ·rw [if_neg c10] at H
      exact absurd H (by simp)
    ·rw [if_neg c9] at H
     exact absurd H (by simp)
end Go.Proofs.YtobkfbkhcghaeaaGreatDoor.PRv
