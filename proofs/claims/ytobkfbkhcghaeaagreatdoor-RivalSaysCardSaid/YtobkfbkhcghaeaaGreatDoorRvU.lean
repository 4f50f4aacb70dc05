/- functions and contracts as the kit's print.py writes them, the roots chosen in this session (wip/proots.sh)
-- slim functions and contracts as the kit's print.py writes them, the roots chosen in this session (wip/proots.sh)
-- slim -/
import Derived.Test.YtobkfbkhcghaeaaGreatDoorPRvx0
import Derived.Test.YtobkfbkhcghaeaaGreatDoorStRv
import Derived.Test.YtobkfbkhcghaeaaGreatDoorPRvx1
import Derived.Test.YtobkfbkhcghaeaaGreatDoorPRvx2
namespace Go.Proofs.YtobkfbkhcghaeaaGreatDoor.PRv
open Go.RowKit Go.Proofs.YtobkfbkhcghaeaaGreatDoorW.PrintWords Go.Proofs.YtobkfbkhcghaeaaGreatDoorW.PrintLast Go.Proofs.YtobkfbkhcghaeaaGreatDoorW.PrintMore
attribute [local go_sem] max2_int min2_int max_two min_two max_three min_three max_four min_four   -- for this text's walks alone
set_option linter.unusedVariables false
set_option linter.unusedSimpArgs false

/-! ### rival_Best: function 8 -/
mutual
def rival_Best.l0 : Nat → List (S45) → Int → Int → Int → Option (Int × Int)
 | 0, _, _, _, _ => none
 | k + 1, x0, x4, x21, x22 => if x22 < x21 then (rival_Best.l1 k x0 x4 x22 ([] : List Int) 0 true x21 x22 x0 (x0.length : Int) 0) else (some (x4, 0))
def rival_Best.l1 : Nat → List (S45) → Int → Int → List Int → Int → Bool → Int → Int → List (S45) → Int → Int → Option (Int × Int)
 | 0, _, _, _, _, _, _, _, _, _, _, _ => none
 | k + 1, x0, x4, x5, x6, x7, x8, x21, x22, x25, x26, x27 => if x27 < x26 then (if 0 ≤ x27 then (if x27 < (x25.length : Int) then (if (Go.bits .and .i64 (shr .i64 x5 x27) 1) = 1 then (if x6.length < 17592186044416 then ((some (x6 ++ [x27] : List Int)).bind fun y160 => (if x8 = true then ((job_Runs.f ((rd_T45 x25 x27).f0) ((rd_T45 x25 x27).f1) ((rd_T45 x25 x27).f2) ((rd_T45 x25 x27).f3) ((rd_T45 x25 x27).f4) ((rd_T45 x25 x27).f5) ((rd_T45 x25 x27).f6) ((rd_T45 x25 x27).f7)).bind fun t163 => (rival_Best.l1 k x0 x4 x5 y160 (wrap64 (x7 + ((rd_T45 x25 x27).f5))) t163 x21 x22 x25 x26 (wrap64 (x27 + 1)))) else (rival_Best.l1 k x0 x4 x5 y160 (wrap64 (x7 + ((rd_T45 x25 x27).f5))) false x21 x22 x25 x26 (wrap64 (x27 + 1))))) else (none)) else (rival_Best.l1 k x0 x4 x5 x6 x7 x8 x21 x22 x25 x26 (wrap64 (x27 + 1)))) else (none)) else (none)) else (if x8 = true then (if x7 > x4 then ((rival_met.f k x0 x6).bind fun t164 => (if t164 = true then (rival_Best.l0 k x0 x7 x21 (wrap64 (x22 + 1))) else (rival_Best.l0 k x0 x4 x21 (wrap64 (x22 + 1))))) else (rival_Best.l0 k x0 x4 x21 (wrap64 (x22 + 1)))) else (rival_Best.l0 k x0 x4 x21 (wrap64 (x22 + 1))))
end
def rival_Best.f (k : Nat) (l0 : List (S45)) : Option (Int × Int) := (job_All.f l0).bind fun t157 => (if t157 = true then (if (l0.length : Int) > 10 then (some (0, 2)) else (rival_Best.l0 k l0 0 (shl .i64 1 (l0.length : Int)) 0)) else (some (0, 1)))
set_option maxHeartbeats 8000000 in
set_option maxRecDepth 100000 in
theorem rival_Best.calls (k : Nat) (A0 : Option Addr) (c0 : Nat) (l0 : List (S45)) (r1 : Int) (r2 : Int) (w : World) (hTb : Tab w) (hr0 : Kd.C k45 w A0 l0.length l0) (hc0 : l0.length ≤ c0) (h : rival_Best.f k l0 = some (r1, r2)) :
  Calls Tryz.prog 8 #[.slice A0 l0.length c0] w fun e w' => e = .returned (.tuple #[.int .i64 r1, .int .i64 r2]) ∧ Below w.heap.size w w' := by
 have HTb := Aside0.mk hTb
 clear hTb
 have hu45 := Tryz.underlying45
 have HR0 := Aside0.mk hr0
 have HC0 := Aside0.mk hc0
 clear hr0 hc0
 have HB := Aside0.mk (Below.refl w.heap.size w)
 have H : ((job_All.f l0).bind fun t157 => (if t157 = true then (if (l0.length : Int) > 10 then (some (0, 2)) else (rival_Best.l0 k l0 0 (shl .i64 1 (l0.length : Int)) 0)) else (some (0, 1)))) = some (r1, r2) := h
 clear h
 replace H := Option.bind_eq_some_iff.mp H
 obtain ⟨t157, A20, H⟩ := H
 replace H : (if t157 = true then (if (l0.length : Int) > 10 then (some (0, 2)) else (rival_Best.l0 k l0 0 (shl .i64 1 (l0.length : Int)) 0)) else (some (0, 1))) = some (r1, r2) := H
 have A2 := Aside0.mk A20
 clear A20
 by_cases c3 : t157 = true
 ·subst c3
  have H1 : (if (l0.length : Int) > 10 then (some (0, 2)) else (rival_Best.l0 k l0 0 (shl .i64 1 (l0.length : Int)) 0)) = some (r1, r2) := by rw [if_pos rfl] at H; exact H
  clear H
  have H := H1
  clear H1
  by_cases c4 : (l0.length : Int) > 10
  ·rw [if_pos c4] at H
   have c4b0 : decide (10 < (l0.length : Int)) = true := decide_eq_true c4
   have c4b1 : decide (10 < l0.length) = true := decide_eq_true (by omega)
   clear c4
   simp only [Option.some.injEq, Prod.mk.injEq] at H
   obtain ⟨rfl, rfl⟩ := H
   go_enter Tryz.func8, Tryz.ntmps8
   go_wp2_with (first | ((with_reducible refine gate_callee (f := 20) rfl ?_); refine goesL_ (some 13) rfl rfl Tryz.func20 (by kernel_rfl) rfl #[.slice A0 l0.length c0] rfl (by (try simp only [List.map_toArray, List.map_cons, List.map_nil]); first | done | rfl | (simp only [List.length_drop, List.length_take]; rfl)) ?_; (with_reducible refine (job_All.calls _ _ l0 true _ (tab_below HTb.out (bel HB)) ?side1 ?side2 A2.out).mono ?_); (case side1 => repeat (first | exact HR0.out | (with_reducible refine Kd.C_alloc ?_ _) | (with_reducible refine Kd.C_drewN ?_ _) | (with_reducible refine Kd.C_drew ?_))); (case side2 => exact HC0.out); rintro e w5 ⟨rfl, hb⟩; refine ⟨_, rfl, ?_⟩; have n0_ := Aside0.mk (below_step (bel HB) hb); clear HB; have HB := n0_; clear n0_; (try clear hb); (try clear hb2); (try clear hk); (try clear hi)))
   go_ret2
   exact ⟨by first | rfl | (simp [*] <;> rfl), bel HB⟩
  ·rw [if_neg c4] at H
   have c4b0 : decide (10 < (l0.length : Int)) = false := decide_eq_false c4
   have c4b1 : decide (10 < l0.length) = false := decide_eq_false (by omega)
   clear c4
   obtain ⟨ji6, hji6⟩ : ∃ j_ : Int, (shl .i64 1 (l0.length : Int)) = j_ := ⟨_, rfl⟩
   replace H : (rival_Best.l0 k l0 0 ji6 0) = some (r1, r2) := by first | (rw [hji6] at H; exact H) | (simp only [hji6] at H ⊢; exact H)
   (try rw [hji6] at A2)
   have hji6_ : (IntKind.i64.wrap (1 * 2 ^ min (l0.length : Int).toNat 64)) = ji6 := hji6
   have hji6z : (l0.length : Int) ≤ 64 → (IntKind.i64.wrap (1 * 2 ^ (l0.length : Int).toNat)) = ji6 := shl_small hji6
   have hji6p : (IntKind.i64.wrap (1 * 2 ^ min l0.length 64)) = ji6 := hji6_
   have hji6q : (l0.length : Int) ≤ 64 → (IntKind.i64.wrap (1 * 2 ^ l0.length)) = ji6 := hji6z
   have hji6r : (IntKind.i64.wrap (2 ^ min l0.length 64)) = ji6 := by have h_ := hji6p; rw [Int.one_mul] at h_; exact h_
   have hji6s : (l0.length : Int) ≤ 64 → (IntKind.i64.wrap (2 ^ l0.length)) = ji6 := fun hle_ => by have h_ := hji6q hle_; rw [Int.one_mul] at h_; exact h_
   have hji6u : (IntKind.i64.wrap (2 ^ min (l0.length : Int).toNat 64)) = ji6 := by have h_ := hji6_; rw [Int.one_mul] at h_; exact h_
   have hji6v : (l0.length : Int) ≤ 64 → (IntKind.i64.wrap (2 ^ (l0.length : Int).toNat)) = ji6 := fun hle_ => by have h_ := hji6z hle_; rw [Int.one_mul] at h_; exact h_
   have hji6y : (wrap64 (1 * 2 ^ min (l0.length : Int).toNat 64)) = ji6 := (i64_w _).symm.trans hji6_
   have hji6x : (l0.length : Int) ≤ 64 → (wrap64 (1 * 2 ^ (l0.length : Int).toNat)) = ji6 := fun h_ => (i64_w _).symm.trans (hji6z h_)
   have H' := Aside0.mk H
   clear H
   go_enter Tryz.func8, Tryz.ntmps8
   go_wp2_with (first | ((with_reducible refine gate_callee (f := 20) rfl ?_); refine goesL_ (some 13) rfl rfl Tryz.func20 (by kernel_rfl) rfl #[.slice A0 l0.length c0] rfl (by (try simp only [List.map_toArray, List.map_cons, List.map_nil]); first | done | rfl | (simp only [List.length_drop, List.length_take]; rfl)) ?_; (with_reducible refine (job_All.calls _ _ l0 true _ (tab_below HTb.out (bel HB)) ?side1 ?side2 A2.out).mono ?_); (case side1 => repeat (first | exact HR0.out | (with_reducible refine Kd.C_alloc ?_ _) | (with_reducible refine Kd.C_drewN ?_ _) | (with_reducible refine Kd.C_drew ?_))); (case side2 => exact HC0.out); rintro e w7 ⟨rfl, hb⟩; refine ⟨_, rfl, ?_⟩; have n0_ := Aside0.mk (below_step (bel HB) hb); clear HB; have HB := n0_; clear n0_; (try clear hb); (try clear hb2); (try clear hk); (try clear hi)))
   go_loopg [4, 22] k (fun kq v4 v22 w' => ∃ (x4_1 : Int) (x22_1 : Int), v4 = .int .i64 x4_1 ∧ v22 = .int .i64 x22_1 ∧ Aside0 (rival_Best.l0 kq l0 x4_1 ji6 x22_1 = some (r1, r2)) ∧ Aside0 (kq ≤ k) ∧ Aside0 (Below w.heap.size w w'))
   case atStart => exact ⟨(0), (0), (by first | rfl | simp [*]), (by first | rfl | simp [*]), H', ⟨Nat.le_refl _⟩, ⟨bel HB⟩⟩
   case round =>
    clear H'
    try clear c2
    try clear p2
    try clear c3
    try clear c4
    try clear c4b0
    try clear c4b1
    try clear p6
    obtain ⟨x4_1, x22_1, rfl, rfl, HA, HK1, HB⟩ := hrel
    cases gk with
    | zero => exact absurd HA.out (by simp [rival_Best.l0])
    | succ k1 =>
     have H := HA.out
     clear HA
     simp only [rival_Best.l0] at H
     by_cases c8 : x22_1 < ji6
     ·rw [if_pos c8] at H
      have c8b0 : decide (x22_1 < ji6) = true := decide_eq_true c8
      clear c8
      have H' := Aside0.mk H
      clear H
      go_wp2
      go_loopg [6, 7, 8, 27] k1 (fun kq v6 v7 v8 v27 w' => ∃ (x6_2 : List Int) (x7_2 : Int) (x8_2 : Bool) (x27_2 : Int), v7 = .int .i64 x7_2 ∧ v8 = .bool x8_2 ∧ v27 = .int .i64 x27_2 ∧ Aside0 (rival_Best.l1 kq l0 x4_1 x22_1 x6_2 x7_2 x8_2 ji6 x22_1 l0 (l0.length : Int) x27_2 = some (r1, r2)) ∧ Aside0 (kq ≤ k1) ∧ Aside0 (Kd.R (Kd.int .i64) 3 w' w.heap.size (fun _ => True) v6 x6_2) ∧ Aside0 (Below w.heap.size w w'))
      case atStart => exact ⟨(([] : List Int)), (0), (true), (0), (by first | rfl | simp [*]), (by first | rfl | simp [*]), (by first | rfl | simp [*]), H', ⟨Nat.le_refl _⟩, ⟨by first | exact Kd.R_nil _ _ _ _ _ | exact Kd.N_nil _ _ _ _ _ | exact Kd.V_nil _ _ _ _ _ | exact Kd.Q_nil _ _ _ _ _ | exact Kd.S_nil _ _ _ _ _⟩, ⟨bel HB⟩⟩
      case round =>
       clear H'
       try clear c2
       try clear p2
       try clear c3
       try clear c4
       try clear c4b0
       try clear c4b1
       try clear p6
       try clear c8
       try clear c8b0
       try clear p2
       try clear p6
       obtain ⟨x6_2, x7_2, x8_2, x27_2, rfl, rfl, rfl, HA, HK2, HO_6, HB⟩ := hrel
       cases gk with
       | zero => exact absurd HA.out (by simp [rival_Best.l1])
       | succ k2 =>
        have H := HA.out
        clear HA
        simp only [rival_Best.l1] at H
        by_cases c9 : x27_2 < (l0.length : Int)
        ·rw [if_pos c9] at H
         have c9b0 : decide (x27_2 < (l0.length : Int)) = true := decide_eq_true c9
         clear c9
         by_cases c10 : 0 ≤ x27_2
         ·rw [if_pos c10] at H
          have c10b0 : decide (0 ≤ x27_2) = true := decide_eq_true c10
          clear c10
          by_cases c11 : x27_2 < (l0.length : Int)
          ·rw [if_pos c11] at H
           have c11b0 : decide (x27_2 < (l0.length : Int)) = true := decide_eq_true c11
           clear c11
           have c12b0 := eq_true (of_decide_eq_true ‹_› : 0 ≤ x27_2)
           obtain ⟨ji13, hji13⟩ : ∃ j_ : Int, (shr .i64 x22_1 x27_2) = j_ := ⟨_, rfl⟩
           replace H : (if (Go.bits .and .i64 (ji13) 1) = 1 then (if x6_2.length < 17592186044416 then ((some (x6_2 ++ [x27_2] : List Int)).bind fun y160 => (if x8_2 = true then ((job_Runs.f ((rd_T45 l0 x27_2).f0) ((rd_T45 l0 x27_2).f1) ((rd_T45 l0 x27_2).f2) ((rd_T45 l0 x27_2).f3) ((rd_T45 l0 x27_2).f4) ((rd_T45 l0 x27_2).f5) ((rd_T45 l0 x27_2).f6) ((rd_T45 l0 x27_2).f7)).bind fun t163 => (rival_Best.l1 k2 l0 x4_1 x22_1 y160 (wrap64 (x7_2 + ((rd_T45 l0 x27_2).f5))) t163 ji6 x22_1 l0 (l0.length : Int) (wrap64 (x27_2 + 1)))) else (rival_Best.l1 k2 l0 x4_1 x22_1 y160 (wrap64 (x7_2 + ((rd_T45 l0 x27_2).f5))) false ji6 x22_1 l0 (l0.length : Int) (wrap64 (x27_2 + 1))))) else (none)) else (rival_Best.l1 k2 l0 x4_1 x22_1 x6_2 x7_2 x8_2 ji6 x22_1 l0 (l0.length : Int) (wrap64 (x27_2 + 1)))) = some (r1, r2) := by first | (rw [hji13] at H; exact H) | (simp only [hji13] at H ⊢; exact H)
           have hji13_ : (x22_1 / 2 ^ min x27_2.toNat 64) = ji13 := hji13
           have hji13z : x27_2 ≤ 64 → (x22_1 / 2 ^ x27_2.toNat) = ji13 := shr_small hji13
           by_cases c14 : (Go.bits .and .i64 (ji13) 1) = 1
           ·rw [if_pos c14] at H
            have c14b0 : ((Go.bits .and .i64 (ji13) 1) == 1) = true := beq_iff_eq.mpr c14
            have c14b1 : ((Go.bits .and .i64 (ji13) 1) != 1) = false := bne_eq_false_iff_eq.mpr c14
            clear c14
            by_cases c15 : x6_2.length < 17592186044416
            ·rw [if_pos c15] at H
             have LMc15 := Aside0.mk c15
             clear c15
             obtain ⟨y160, hy160⟩ : ∃ y_ : List Int, y_ = (x6_2 ++ [x27_2]) := ⟨_, rfl⟩
             replace H : (if x8_2 = true then ((job_Runs.f ((rd_T45 l0 x27_2).f0) ((rd_T45 l0 x27_2).f1) ((rd_T45 l0 x27_2).f2) ((rd_T45 l0 x27_2).f3) ((rd_T45 l0 x27_2).f4) ((rd_T45 l0 x27_2).f5) ((rd_T45 l0 x27_2).f6) ((rd_T45 l0 x27_2).f7)).bind fun t163 => (rival_Best.l1 k2 l0 x4_1 x22_1 y160 (wrap64 (x7_2 + ((rd_T45 l0 x27_2).f5))) t163 ji6 x22_1 l0 (l0.length : Int) (wrap64 (x27_2 + 1)))) else (rival_Best.l1 k2 l0 x4_1 x22_1 y160 (wrap64 (x7_2 + ((rd_T45 l0 x27_2).f5))) false ji6 x22_1 l0 (l0.length : Int) (wrap64 (x27_2 + 1)))) = some (r1, r2) := by first | (rw [hy160]; with_reducible exact H) | (have H2_ := (Option.bind_some _ _).symm.trans H; rw [hy160]; with_reducible exact H2_) | (have H2_ := (Option.bind_some _ _).symm.trans H; with_reducible exact H2_) | with_reducible exact H | (rw [hy160]; exact H) | exact H
             have Ny160 := Aside0.mk hy160
             clear hy160
             by_cases c16 : x8_2 = true
             ·subst c16
              have H1 : ((job_Runs.f ((rd_T45 l0 x27_2).f0) ((rd_T45 l0 x27_2).f1) ((rd_T45 l0 x27_2).f2) ((rd_T45 l0 x27_2).f3) ((rd_T45 l0 x27_2).f4) ((rd_T45 l0 x27_2).f5) ((rd_T45 l0 x27_2).f6) ((rd_T45 l0 x27_2).f7)).bind fun t163 => (rival_Best.l1 k2 l0 x4_1 x22_1 y160 (wrap64 (x7_2 + ((rd_T45 l0 x27_2).f5))) t163 ji6 x22_1 l0 (l0.length : Int) (wrap64 (x27_2 + 1)))) = some (r1, r2) := by rw [if_pos rfl] at H; exact H
              clear H
              have H := H1
              clear H1
              replace H := Option.bind_eq_some_iff.mp H
              obtain ⟨t163, A170, H⟩ := H
              replace H : (rival_Best.l1 k2 l0 x4_1 x22_1 y160 (wrap64 (x7_2 + ((rd_T45 l0 x27_2).f5))) t163 ji6 x22_1 l0 (l0.length : Int) (wrap64 (x27_2 + 1))) = some (r1, r2) := H
              have A17 := Aside0.mk A170
              clear A170
              have H' := Aside0.mk H
              clear H
              have p158 : 0 ≤ (x27_2 : Int) := of_decide_eq_true ‹_›
              have q158 : x27_2 < (l0.length : Int) := of_decide_eq_true ‹_›
              obtain ⟨ad158, e158, hx158_0, hx158_1, hx158_2, hx158_3, hx158_4, hx158_5, hx158_6, hx158_7⟩ := at_T45 HR0.out x27_2 p158 q158
              cases e158
              replace hx158_0 := bl HB hx158_0
              replace hx158_1 := bl HB hx158_1
              replace hx158_2 := bl HB hx158_2
              replace hx158_3 := bl HB hx158_3
              replace hx158_4 := bl HB hx158_4
              replace hx158_5 := bl HB hx158_5
              replace hx158_6 := bl HB hx158_6
              replace hx158_7 := bl HB hx158_7
              replace p158 := eq_true p158
              replace q158 := eq_true q158
              go_wp2_with (first | ((with_reducible refine gate_dst (N := 10) rfl ?_); refine box_event ?hg (N := 10) ?hd (cs := #[.string (⟨#[]⟩ : ByteArray), .int .i64 0, .int .i64 0, .int .i64 0, .int .i64 0, .int .i64 0, .int .i64 0, .bool false]) (t := 45) ?hr ?_; (case hd => rfl); (case hg => rfl); (case hr => first | (go_simp; done) | (go_simp; rfl)); intro gb159 hg w18 hbox hb; have n0_ := Aside0.mk (Kd.R_below (by (with_reducible repeat (first | apply Kd.R_alloc | apply Kd.R_drewN | apply Kd.R_drew)); exact HO_6.out) hb); have n1_ := Aside0.mk (below_step (bel HB) hb); have n2_ := Aside0.mk (hbox); have n3_ := Aside0.mk ((by rw [hg]; exact (below_size (bel HB)) : w.heap.size ≤ gb159)); have n4_ := Aside0.mk ((by rw [hg]; exact (below_size (bel HB)) : w.heap.size ≤ gb159)); clear HO_6; clear HB; have HO_6 := n0_; have HB := n1_; have BK159 := n2_; have GW159 := n3_; have GE159 := n4_; clear n0_ n1_ n2_ n3_ n4_; clear hb hbox hg; obtain ⟨hcz19_0, hcz19_1, hcz19_2, hcz19_3, hcz19_4, hcz19_5, hcz19_6, hcz19_7⟩ := cel8 BK159; obtain ⟨hfz19_0, hfz19_1, hfz19_2, hfz19_3, hfz19_4, hfz19_5, hfz19_6, hfz19_7⟩ := frz8 BK159) | ((with_reducible refine gate_builtin (b := .append) (xs := #[.tmp 37, .tmp 39]) rfl ?_); at_builtin; refine Kd.R_append (Kd.int .i64) (w0 := w) w.heap.size rfl (.tmp 37) (.tmp 39) 23 3 (.int .i64 0) 8 rfl Tryz.underlying23 info3 rfl (by decide) (by omega) u6 x6_2 x27_2 [.int .i64 x27_2] (fun _ => True) (fun _ => False) rfl (by first | (go_simp; done) | (go_simp; rfl)) ?aP (fun _ hk => hk.elim) ?aF ?aO ?aB ?aS ?aL ?_; (case aP => exact rfl); (case aB => exact (by repeat (first | (with_reducible first | exact HB.out | apply below_alloc | apply pw_below_drewN | apply below_drew1 | refine below_set ?_ GE159.out) | exact HB.out))); (case aF => exact (fun _ _ => trivial)); (case aO => exact (by (with_reducible repeat (first | apply Kd.R_alloc | apply Kd.R_drewN | apply Kd.R_drew)); exact Kd.R_mono (Kd.R_far (p := ⟨gb159, 7, none⟩) (Kd.R_far (p := ⟨gb159, 6, none⟩) (Kd.R_far (p := ⟨gb159, 5, none⟩) (Kd.R_far (p := ⟨gb159, 4, none⟩) (Kd.R_far (p := ⟨gb159, 3, none⟩) (Kd.R_far (p := ⟨gb159, 2, none⟩) (Kd.R_far (p := ⟨gb159, 1, none⟩) (Kd.R_far (p := ⟨gb159, 0, none⟩) (Kd.R_types HO_6.out BK159.out (by decide)) (fun _ hk => hk.2) (.string ((rd_T45 l0 x27_2).f0))) (fun _ hk => hk.2) (.int .i64 ((rd_T45 l0 x27_2).f1))) (fun _ hk => hk.2) (.int .i64 ((rd_T45 l0 x27_2).f2))) (fun _ hk => hk.2) (.int .i64 ((rd_T45 l0 x27_2).f3))) (fun _ hk => hk.2) (.int .i64 ((rd_T45 l0 x27_2).f4))) (fun _ hk => hk.2) (.int .i64 ((rd_T45 l0 x27_2).f5))) (fun _ hk => hk.2) (.int .i64 ((rd_T45 l0 x27_2).f6))) (fun _ hk => hk.2) (.bool ((rd_T45 l0 x27_2).f7))) (fun _ hk => trivial))); (case aS => exact (below_size (by repeat (first | (with_reducible first | exact HB.out | apply below_alloc | apply pw_below_drewN | apply below_drew1 | refine below_set ?_ GE159.out) | exact HB.out)))); (case aL => have := LMc15.out; omega); intro v161 w20 ho hb hg hat; rw [← Ny160.out] at ho; have n0_ := Aside0.mk (blk_grown (g := gb159) (o := .cells #[.string ((rd_T45 l0 x27_2).f0), .int .i64 ((rd_T45 l0 x27_2).f1), .int .i64 ((rd_T45 l0 x27_2).f2), .int .i64 ((rd_T45 l0 x27_2).f3), .int .i64 ((rd_T45 l0 x27_2).f4), .int .i64 ((rd_T45 l0 x27_2).f5), .int .i64 ((rd_T45 l0 x27_2).f6), .bool ((rd_T45 l0 x27_2).f7)] 45 (0, 0)) (by (with_reducible repeat (first | refine blk_drewN ?_ _ | refine blk_drew ?_ | refine blk_alloc ?_ _)); refine blk_put (cs := #[.string ((rd_T45 l0 x27_2).f0), .int .i64 ((rd_T45 l0 x27_2).f1), .int .i64 ((rd_T45 l0 x27_2).f2), .int .i64 ((rd_T45 l0 x27_2).f3), .int .i64 ((rd_T45 l0 x27_2).f4), .int .i64 ((rd_T45 l0 x27_2).f5), .int .i64 ((rd_T45 l0 x27_2).f6), .bool false]) ?_ 7 _ rfl; (with_reducible repeat (first | refine blk_drewN ?_ _ | refine blk_drew ?_ | refine blk_alloc ?_ _)); refine blk_put (cs := #[.string ((rd_T45 l0 x27_2).f0), .int .i64 ((rd_T45 l0 x27_2).f1), .int .i64 ((rd_T45 l0 x27_2).f2), .int .i64 ((rd_T45 l0 x27_2).f3), .int .i64 ((rd_T45 l0 x27_2).f4), .int .i64 ((rd_T45 l0 x27_2).f5), .int .i64 0, .bool false]) ?_ 6 _ rfl; (with_reducible repeat (first | refine blk_drewN ?_ _ | refine blk_drew ?_ | refine blk_alloc ?_ _)); refine blk_put (cs := #[.string ((rd_T45 l0 x27_2).f0), .int .i64 ((rd_T45 l0 x27_2).f1), .int .i64 ((rd_T45 l0 x27_2).f2), .int .i64 ((rd_T45 l0 x27_2).f3), .int .i64 ((rd_T45 l0 x27_2).f4), .int .i64 0, .int .i64 0, .bool false]) ?_ 5 _ rfl; (with_reducible repeat (first | refine blk_drewN ?_ _ | refine blk_drew ?_ | refine blk_alloc ?_ _)); refine blk_put (cs := #[.string ((rd_T45 l0 x27_2).f0), .int .i64 ((rd_T45 l0 x27_2).f1), .int .i64 ((rd_T45 l0 x27_2).f2), .int .i64 ((rd_T45 l0 x27_2).f3), .int .i64 0, .int .i64 0, .int .i64 0, .bool false]) ?_ 4 _ rfl; (with_reducible repeat (first | refine blk_drewN ?_ _ | refine blk_drew ?_ | refine blk_alloc ?_ _)); refine blk_put (cs := #[.string ((rd_T45 l0 x27_2).f0), .int .i64 ((rd_T45 l0 x27_2).f1), .int .i64 ((rd_T45 l0 x27_2).f2), .int .i64 0, .int .i64 0, .int .i64 0, .int .i64 0, .bool false]) ?_ 3 _ rfl; (with_reducible repeat (first | refine blk_drewN ?_ _ | refine blk_drew ?_ | refine blk_alloc ?_ _)); refine blk_put (cs := #[.string ((rd_T45 l0 x27_2).f0), .int .i64 ((rd_T45 l0 x27_2).f1), .int .i64 0, .int .i64 0, .int .i64 0, .int .i64 0, .int .i64 0, .bool false]) ?_ 2 _ rfl; (with_reducible repeat (first | refine blk_drewN ?_ _ | refine blk_drew ?_ | refine blk_alloc ?_ _)); refine blk_put (cs := #[.string ((rd_T45 l0 x27_2).f0), .int .i64 0, .int .i64 0, .int .i64 0, .int .i64 0, .int .i64 0, .int .i64 0, .bool false]) ?_ 1 _ rfl; (with_reducible repeat (first | refine blk_drewN ?_ _ | refine blk_drew ?_ | refine blk_alloc ?_ _)); refine blk_put (cs := #[.string (⟨#[]⟩ : ByteArray), .int .i64 0, .int .i64 0, .int .i64 0, .int .i64 0, .int .i64 0, .int .i64 0, .bool false]) ?_ 0 _ rfl; (with_reducible repeat (first | refine blk_drewN ?_ _ | refine blk_drew ?_ | refine blk_alloc ?_ _)); exact BK159.out) hg (Kd.R_ne HO_6.out BK159.out (by decide))); have n1_ := Aside0.mk (hb); have n2_ := Aside0.mk (ho); clear BK159; clear HB; clear HO_6; have BK159 := n0_; have HB := n1_; have HO162 := n2_; clear n0_ n1_ n2_; clear ho hb hg hat; obtain ⟨hcz21_0, hcz21_1, hcz21_2, hcz21_3, hcz21_4, hcz21_5, hcz21_6, hcz21_7⟩ := cel8 BK159; obtain ⟨hfz21_0, hfz21_1, hfz21_2, hfz21_3, hfz21_4, hfz21_5, hfz21_6, hfz21_7⟩ := frz8 BK159) | (go_at_call 21; (with_reducible refine (job_Runs.calls ((rd_T45 l0 x27_2).f0) ((rd_T45 l0 x27_2).f1) ((rd_T45 l0 x27_2).f2) ((rd_T45 l0 x27_2).f3) ((rd_T45 l0 x27_2).f4) ((rd_T45 l0 x27_2).f5) ((rd_T45 l0 x27_2).f6) ((rd_T45 l0 x27_2).f7) t163 _ A17.out).mono ?_); rintro e w22 ⟨rfl, hb⟩; have n0_ := Aside0.mk (Kd.R_below (by (with_reducible repeat (first | apply Kd.R_alloc | apply Kd.R_drewN | apply Kd.R_drew)); exact HO162.out) hb); have n1_ := Aside0.mk (blk_below (g := gb159) (o := .cells #[.string ((rd_T45 l0 x27_2).f0), .int .i64 ((rd_T45 l0 x27_2).f1), .int .i64 ((rd_T45 l0 x27_2).f2), .int .i64 ((rd_T45 l0 x27_2).f3), .int .i64 ((rd_T45 l0 x27_2).f4), .int .i64 ((rd_T45 l0 x27_2).f5), .int .i64 ((rd_T45 l0 x27_2).f6), .bool ((rd_T45 l0 x27_2).f7)] 45 (0, 0)) (by (with_reducible repeat (first | refine blk_drewN ?_ _ | refine blk_drew ?_ | refine blk_alloc ?_ _)); exact BK159.out) hb); have n2_ := Aside0.mk (below_step (by repeat (first | (with_reducible first | exact HB.out | apply below_alloc | apply pw_below_drewN | apply below_drew1 | refine below_set ?_ GE159.out) | exact HB.out)) hb); clear HO162; clear BK159; clear HB; have HO162 := n0_; have BK159 := n1_; have HB := n2_; clear n0_ n1_ n2_; (try clear hb); (try clear hb2); (try clear hk); (try clear hi)))
              go_roundg k2
              case measure => have := HK1.out; have := HK2.out; omega
              case rel => exact ⟨(y160), (wrap64 (x7_2 + ((rd_T45 l0 x27_2).f5))), (t163), (wrap64 (x27_2 + 1)), (by first | rfl | simp [*]), (by first | rfl | simp [*]), (by first | rfl | simp [*]), H', ⟨by have := HK1.out; have := HK2.out; omega⟩, ⟨by (with_reducible repeat (first | apply Kd.R_alloc | apply Kd.R_drewN | apply Kd.R_drew)); exact HO162.out⟩, ⟨by repeat (first | (with_reducible first | exact HB.out | apply below_alloc | apply pw_below_drewN | apply below_drew1 | refine below_set ?_ GE159.out) | exact HB.out)⟩⟩
             ·replace c16 := Bool.eq_false_iff.mpr c16
              subst c16
              have H1 : (rival_Best.l1 k2 l0 x4_1 x22_1 y160 (wrap64 (x7_2 + ((rd_T45 l0 x27_2).f5))) false ji6 x22_1 l0 (l0.length : Int) (wrap64 (x27_2 + 1))) = some (r1, r2) := by rw [if_neg (show ¬ (false = true) by decide)] at H; exact H
              clear H
              have H := H1
              clear H1
              have H' := Aside0.mk H
              clear H
              have p158 : 0 ≤ (x27_2 : Int) := of_decide_eq_true ‹_›
              have q158 : x27_2 < (l0.length : Int) := of_decide_eq_true ‹_›
              obtain ⟨ad158, e158, hx158_0, hx158_1, hx158_2, hx158_3, hx158_4, hx158_5, hx158_6, hx158_7⟩ := at_T45 HR0.out x27_2 p158 q158
              cases e158
              replace hx158_0 := bl HB hx158_0
              replace hx158_1 := bl HB hx158_1
              replace hx158_2 := bl HB hx158_2
              replace hx158_3 := bl HB hx158_3
              replace hx158_4 := bl HB hx158_4
              replace hx158_5 := bl HB hx158_5
              replace hx158_6 := bl HB hx158_6
              replace hx158_7 := bl HB hx158_7
              replace p158 := eq_true p158
              replace q158 := eq_true q158
              go_wp2_with (first | ((with_reducible refine gate_dst (N := 10) rfl ?_); refine box_event ?hg (N := 10) ?hd (cs := #[.string (⟨#[]⟩ : ByteArray), .int .i64 0, .int .i64 0, .int .i64 0, .int .i64 0, .int .i64 0, .int .i64 0, .bool false]) (t := 45) ?hr ?_; (case hd => rfl); (case hg => rfl); (case hr => first | (go_simp; done) | (go_simp; rfl)); intro gb159 hg w23 hbox hb; have n0_ := Aside0.mk (Kd.R_below (by (with_reducible repeat (first | apply Kd.R_alloc | apply Kd.R_drewN | apply Kd.R_drew)); exact HO_6.out) hb); have n1_ := Aside0.mk (below_step (bel HB) hb); have n2_ := Aside0.mk (hbox); have n3_ := Aside0.mk ((by rw [hg]; exact (below_size (bel HB)) : w.heap.size ≤ gb159)); have n4_ := Aside0.mk ((by rw [hg]; exact (below_size (bel HB)) : w.heap.size ≤ gb159)); clear HO_6; clear HB; have HO_6 := n0_; have HB := n1_; have BK159 := n2_; have GW159 := n3_; have GE159 := n4_; clear n0_ n1_ n2_ n3_ n4_; clear hb hbox hg; obtain ⟨hcz24_0, hcz24_1, hcz24_2, hcz24_3, hcz24_4, hcz24_5, hcz24_6, hcz24_7⟩ := cel8 BK159; obtain ⟨hfz24_0, hfz24_1, hfz24_2, hfz24_3, hfz24_4, hfz24_5, hfz24_6, hfz24_7⟩ := frz8 BK159) | ((with_reducible refine gate_builtin (b := .append) (xs := #[.tmp 37, .tmp 39]) rfl ?_); at_builtin; refine Kd.R_append (Kd.int .i64) (w0 := w) w.heap.size rfl (.tmp 37) (.tmp 39) 23 3 (.int .i64 0) 8 rfl Tryz.underlying23 info3 rfl (by decide) (by omega) u6 x6_2 x27_2 [.int .i64 x27_2] (fun _ => True) (fun _ => False) rfl (by first | (go_simp; done) | (go_simp; rfl)) ?aP (fun _ hk => hk.elim) ?aF ?aO ?aB ?aS ?aL ?_; (case aP => exact rfl); (case aB => exact (by repeat (first | (with_reducible first | exact HB.out | apply below_alloc | apply pw_below_drewN | apply below_drew1 | refine below_set ?_ GE159.out) | exact HB.out))); (case aF => exact (fun _ _ => trivial)); (case aO => exact (by (with_reducible repeat (first | apply Kd.R_alloc | apply Kd.R_drewN | apply Kd.R_drew)); exact Kd.R_mono (Kd.R_far (p := ⟨gb159, 7, none⟩) (Kd.R_far (p := ⟨gb159, 6, none⟩) (Kd.R_far (p := ⟨gb159, 5, none⟩) (Kd.R_far (p := ⟨gb159, 4, none⟩) (Kd.R_far (p := ⟨gb159, 3, none⟩) (Kd.R_far (p := ⟨gb159, 2, none⟩) (Kd.R_far (p := ⟨gb159, 1, none⟩) (Kd.R_far (p := ⟨gb159, 0, none⟩) (Kd.R_types HO_6.out BK159.out (by decide)) (fun _ hk => hk.2) (.string ((rd_T45 l0 x27_2).f0))) (fun _ hk => hk.2) (.int .i64 ((rd_T45 l0 x27_2).f1))) (fun _ hk => hk.2) (.int .i64 ((rd_T45 l0 x27_2).f2))) (fun _ hk => hk.2) (.int .i64 ((rd_T45 l0 x27_2).f3))) (fun _ hk => hk.2) (.int .i64 ((rd_T45 l0 x27_2).f4))) (fun _ hk => hk.2) (.int .i64 ((rd_T45 l0 x27_2).f5))) (fun _ hk => hk.2) (.int .i64 ((rd_T45 l0 x27_2).f6))) (fun _ hk => hk.2) (.bool ((rd_T45 l0 x27_2).f7))) (fun _ hk => trivial))); (case aS => exact (below_size (by repeat (first | (with_reducible first | exact HB.out | apply below_alloc | apply pw_below_drewN | apply below_drew1 | refine below_set ?_ GE159.out) | exact HB.out)))); (case aL => have := LMc15.out; omega); intro v161 w25 ho hb hg hat; rw [← Ny160.out] at ho; have n0_ := Aside0.mk (blk_grown (g := gb159) (o := .cells #[.string ((rd_T45 l0 x27_2).f0), .int .i64 ((rd_T45 l0 x27_2).f1), .int .i64 ((rd_T45 l0 x27_2).f2), .int .i64 ((rd_T45 l0 x27_2).f3), .int .i64 ((rd_T45 l0 x27_2).f4), .int .i64 ((rd_T45 l0 x27_2).f5), .int .i64 ((rd_T45 l0 x27_2).f6), .bool ((rd_T45 l0 x27_2).f7)] 45 (0, 0)) (by (with_reducible repeat (first | refine blk_drewN ?_ _ | refine blk_drew ?_ | refine blk_alloc ?_ _)); refine blk_put (cs := #[.string ((rd_T45 l0 x27_2).f0), .int .i64 ((rd_T45 l0 x27_2).f1), .int .i64 ((rd_T45 l0 x27_2).f2), .int .i64 ((rd_T45 l0 x27_2).f3), .int .i64 ((rd_T45 l0 x27_2).f4), .int .i64 ((rd_T45 l0 x27_2).f5), .int .i64 ((rd_T45 l0 x27_2).f6), .bool false]) ?_ 7 _ rfl; (with_reducible repeat (first | refine blk_drewN ?_ _ | refine blk_drew ?_ | refine blk_alloc ?_ _)); refine blk_put (cs := #[.string ((rd_T45 l0 x27_2).f0), .int .i64 ((rd_T45 l0 x27_2).f1), .int .i64 ((rd_T45 l0 x27_2).f2), .int .i64 ((rd_T45 l0 x27_2).f3), .int .i64 ((rd_T45 l0 x27_2).f4), .int .i64 ((rd_T45 l0 x27_2).f5), .int .i64 0, .bool false]) ?_ 6 _ rfl; (with_reducible repeat (first | refine blk_drewN ?_ _ | refine blk_drew ?_ | refine blk_alloc ?_ _)); refine blk_put (cs := #[.string ((rd_T45 l0 x27_2).f0), .int .i64 ((rd_T45 l0 x27_2).f1), .int .i64 ((rd_T45 l0 x27_2).f2), .int .i64 ((rd_T45 l0 x27_2).f3), .int .i64 ((rd_T45 l0 x27_2).f4), .int .i64 0, .int .i64 0, .bool false]) ?_ 5 _ rfl; (with_reducible repeat (first | refine blk_drewN ?_ _ | refine blk_drew ?_ | refine blk_alloc ?_ _)); refine blk_put (cs := #[.string ((rd_T45 l0 x27_2).f0), .int .i64 ((rd_T45 l0 x27_2).f1), .int .i64 ((rd_T45 l0 x27_2).f2), .int .i64 ((rd_T45 l0 x27_2).f3), .int .i64 0, .int .i64 0, .int .i64 0, .bool false]) ?_ 4 _ rfl; (with_reducible repeat (first | refine blk_drewN ?_ _ | refine blk_drew ?_ | refine blk_alloc ?_ _)); refine blk_put (cs := #[.string ((rd_T45 l0 x27_2).f0), .int .i64 ((rd_T45 l0 x27_2).f1), .int .i64 ((rd_T45 l0 x27_2).f2), .int .i64 0, .int .i64 0, .int .i64 0, .int .i64 0, .bool false]) ?_ 3 _ rfl; (with_reducible repeat (first | refine blk_drewN ?_ _ | refine blk_drew ?_ | refine blk_alloc ?_ _)); refine blk_put (cs := #[.string ((rd_T45 l0 x27_2).f0), .int .i64 ((rd_T45 l0 x27_2).f1), .int .i64 0, .int .i64 0, .int .i64 0, .int .i64 0, .int .i64 0, .bool false]) ?_ 2 _ rfl; (with_reducible repeat (first | refine blk_drewN ?_ _ | refine blk_drew ?_ | refine blk_alloc ?_ _)); refine blk_put (cs := #[.string ((rd_T45 l0 x27_2).f0), .int .i64 0, .int .i64 0, .int .i64 0, .int .i64 0, .int .i64 0, .int .i64 0, .bool false]) ?_ 1 _ rfl; (with_reducible repeat (first | refine blk_drewN ?_ _ | refine blk_drew ?_ | refine blk_alloc ?_ _)); refine blk_put (cs := #[.string (⟨#[]⟩ : ByteArray), .int .i64 0, .int .i64 0, .int .i64 0, .int .i64 0, .int .i64 0, .int .i64 0, .bool false]) ?_ 0 _ rfl; (with_reducible repeat (first | refine blk_drewN ?_ _ | refine blk_drew ?_ | refine blk_alloc ?_ _)); exact BK159.out) hg (Kd.R_ne HO_6.out BK159.out (by decide))); have n1_ := Aside0.mk (hb); have n2_ := Aside0.mk (ho); clear BK159; clear HB; clear HO_6; have BK159 := n0_; have HB := n1_; have HO162 := n2_; clear n0_ n1_ n2_; clear ho hb hg hat; obtain ⟨hcz26_0, hcz26_1, hcz26_2, hcz26_3, hcz26_4, hcz26_5, hcz26_6, hcz26_7⟩ := cel8 BK159; obtain ⟨hfz26_0, hfz26_1, hfz26_2, hfz26_3, hfz26_4, hfz26_5, hfz26_6, hfz26_7⟩ := frz8 BK159))
              go_roundg k2
              case measure => have := HK1.out; have := HK2.out; omega
              case rel => exact ⟨(y160), (wrap64 (x7_2 + ((rd_T45 l0 x27_2).f5))), (false), (wrap64 (x27_2 + 1)), (by first | rfl | simp [*]), (by first | rfl | simp [*]), (by first | rfl | simp [*]), H', ⟨by have := HK1.out; have := HK2.out; omega⟩, ⟨by (with_reducible repeat (first | apply Kd.R_alloc | apply Kd.R_drewN | apply Kd.R_drew)); exact HO162.out⟩, ⟨by repeat (first | (with_reducible first | exact HB.out | apply below_alloc | apply pw_below_drewN | apply below_drew1 | refine below_set ?_ GE159.out) | exact HB.out)⟩⟩
            ·rw [if_neg c15] at H
             exact absurd H (by simp)
           ·rw [if_neg c14] at H
            have c14b0 : ((Go.bits .and .i64 (ji13) 1) == 1) = false := beq_eq_false_iff_ne.mpr c14
            have c14b1 : ((Go.bits .and .i64 (ji13) 1) != 1) = true := bne_iff_ne.mpr c14
            have H' := Aside0.mk H
            clear H
            have p158 : 0 ≤ (x27_2 : Int) := of_decide_eq_true ‹_›
            have q158 : x27_2 < (l0.length : Int) := of_decide_eq_true ‹_›
            obtain ⟨ad158, e158, hx158_0, hx158_1, hx158_2, hx158_3, hx158_4, hx158_5, hx158_6, hx158_7⟩ := at_T45 HR0.out x27_2 p158 q158
            cases e158
            replace hx158_0 := bl HB hx158_0
            replace hx158_1 := bl HB hx158_1
            replace hx158_2 := bl HB hx158_2
            replace hx158_3 := bl HB hx158_3
            replace hx158_4 := bl HB hx158_4
            replace hx158_5 := bl HB hx158_5
            replace hx158_6 := bl HB hx158_6
            replace hx158_7 := bl HB hx158_7
            replace p158 := eq_true p158
            replace q158 := eq_true q158
            go_wp2_with (first | ((with_reducible refine gate_dst (N := 10) rfl ?_); refine box_event ?hg (N := 10) ?hd (cs := #[.string (⟨#[]⟩ : ByteArray), .int .i64 0, .int .i64 0, .int .i64 0, .int .i64 0, .int .i64 0, .int .i64 0, .bool false]) (t := 45) ?hr ?_; (case hd => rfl); (case hg => rfl); (case hr => first | (go_simp; done) | (go_simp; rfl)); intro gb159 hg w27 hbox hb; have n0_ := Aside0.mk (Kd.R_below (by (with_reducible repeat (first | apply Kd.R_alloc | apply Kd.R_drewN | apply Kd.R_drew)); exact HO_6.out) hb); have n1_ := Aside0.mk (below_step (bel HB) hb); have n2_ := Aside0.mk (hbox); have n3_ := Aside0.mk ((by rw [hg]; exact (below_size (bel HB)) : w.heap.size ≤ gb159)); have n4_ := Aside0.mk ((by rw [hg]; exact (below_size (bel HB)) : w.heap.size ≤ gb159)); clear HO_6; clear HB; have HO_6 := n0_; have HB := n1_; have BK159 := n2_; have GW159 := n3_; have GE159 := n4_; clear n0_ n1_ n2_ n3_ n4_; clear hb hbox hg; obtain ⟨hcz28_0, hcz28_1, hcz28_2, hcz28_3, hcz28_4, hcz28_5, hcz28_6, hcz28_7⟩ := cel8 BK159; obtain ⟨hfz28_0, hfz28_1, hfz28_2, hfz28_3, hfz28_4, hfz28_5, hfz28_6, hfz28_7⟩ := frz8 BK159))
            go_roundg k2
            case measure => have := HK1.out; have := HK2.out; omega
            case rel => exact ⟨(x6_2), (x7_2), (x8_2), (wrap64 (x27_2 + 1)), (by first | rfl | simp [*]), (by first | rfl | simp [*]), (by first | rfl | simp [*]), H', ⟨by have := HK1.out; have := HK2.out; omega⟩, ⟨by (with_reducible repeat (first | apply Kd.R_alloc | apply Kd.R_drewN | apply Kd.R_drew)); exact Kd.R_mono (Kd.R_far (p := ⟨gb159, 7, none⟩) (Kd.R_far (p := ⟨gb159, 6, none⟩) (Kd.R_far (p := ⟨gb159, 5, none⟩) (Kd.R_far (p := ⟨gb159, 4, none⟩) (Kd.R_far (p := ⟨gb159, 3, none⟩) (Kd.R_far (p := ⟨gb159, 2, none⟩) (Kd.R_far (p := ⟨gb159, 1, none⟩) (Kd.R_far (p := ⟨gb159, 0, none⟩) (Kd.R_types HO_6.out BK159.out (by decide)) (fun _ hk => hk.2) (.string ((rd_T45 l0 x27_2).f0))) (fun _ hk => hk.2) (.int .i64 ((rd_T45 l0 x27_2).f1))) (fun _ hk => hk.2) (.int .i64 ((rd_T45 l0 x27_2).f2))) (fun _ hk => hk.2) (.int .i64 ((rd_T45 l0 x27_2).f3))) (fun _ hk => hk.2) (.int .i64 ((rd_T45 l0 x27_2).f4))) (fun _ hk => hk.2) (.int .i64 ((rd_T45 l0 x27_2).f5))) (fun _ hk => hk.2) (.int .i64 ((rd_T45 l0 x27_2).f6))) (fun _ hk => hk.2) (.bool ((rd_T45 l0 x27_2).f7))) (fun _ hk => trivial)⟩, ⟨by repeat (first | (with_reducible first | exact HB.out | apply below_alloc | apply pw_below_drewN | apply below_drew1 | refine below_set ?_ GE159.out) | exact HB.out)⟩⟩
          ·rw [if_neg c11] at H
           exact absurd H (by simp)
         ·rw [if_neg c10] at H
          exact absurd H (by simp)
        ·rw [if_neg c9] at H
         have c9b0 : decide (x27_2 < (l0.length : Int)) = false := decide_eq_false c9
         clear c9
         by_cases c29 : x8_2 = true
         ·subst c29
          have H1 : (if x7_2 > x4_1 then ((rival_met.f k2 l0 x6_2).bind fun t164 => (if t164 = true then (rival_Best.l0 k2 l0 x7_2 ji6 (wrap64 (x22_1 + 1))) else (rival_Best.l0 k2 l0 x4_1 ji6 (wrap64 (x22_1 + 1))))) else (rival_Best.l0 k2 l0 x4_1 ji6 (wrap64 (x22_1 + 1)))) = some (r1, r2) := by rw [if_pos rfl] at H; exact H
          clear H
          have H := H1
          clear H1
          by_cases c30 : x7_2 > x4_1
          ·rw [if_pos c30] at H
           have c30b0 : decide (x4_1 < x7_2) = true := decide_eq_true c30
           clear c30
           replace H := Option.bind_eq_some_iff.mp H
           obtain ⟨t164, A310, H⟩ := H
           replace H : (if t164 = true then (rival_Best.l0 k2 l0 x7_2 ji6 (wrap64 (x22_1 + 1))) else (rival_Best.l0 k2 l0 x4_1 ji6 (wrap64 (x22_1 + 1)))) = some (r1, r2) := H
           have A31 := Aside0.mk A310
           clear A310
           by_cases c32 : t164 = true
           ·subst c32
            have H1 : (rival_Best.l0 k2 l0 x7_2 ji6 (wrap64 (x22_1 + 1))) = some (r1, r2) := by rw [if_pos rfl] at H; exact H
            clear H
            have H := H1
            clear H1
            have H' := Aside0.mk H
            clear H
            obtain ⟨Ao33, co33, eo33⟩ := Kd.R_slice HO_6.out
            subst eo33
            go_wp2_with (first | (go_at_call 22; (with_reducible refine (rival_met.calls k2 _ _ l0 _ _ x6_2 true _ (tab_below HTb.out (bel HB)) ?side1 ?side2 ?side3 ?side4 A31.out).mono ?_); (case side1 => repeat (first | exact (Kd.C_below HR0.out HB.out) | (with_reducible refine Kd.C_alloc ?_ _) | (with_reducible refine Kd.C_drewN ?_ _) | (with_reducible refine Kd.C_drew ?_))); (case side2 => exact HC0.out); (case side3 => repeat (first | exact (Kd.R_reads' HO_6.out).2.2 | (with_reducible refine Kd.C_alloc ?_ _) | (with_reducible refine Kd.C_drewN ?_ _) | (with_reducible refine Kd.C_drew ?_))); (case side4 => exact (Kd.R_reads' HO_6.out).2.1); rintro e w34 ⟨rfl, hb⟩; have n0_ := Aside0.mk (Kd.R_below (by (with_reducible repeat (first | apply Kd.R_alloc | apply Kd.R_drewN | apply Kd.R_drew)); exact HO_6.out) hb); have n1_ := Aside0.mk (below_step (bel HB) hb); clear HO_6; clear HB; have HO_6 := n0_; have HB := n1_; clear n0_ n1_; (try clear hb); (try clear hb2); (try clear hk); (try clear hi)))
            go_roundg k2
            case measure => have := HK1.out; have := HK2.out; omega
            case rel => exact ⟨(x7_2), (wrap64 (x22_1 + 1)), (by first | rfl | simp [*]), (by first | rfl | simp [*]), H', ⟨by have := HK1.out; have := HK2.out; omega⟩, ⟨bel HB⟩⟩
           ·replace c32 := Bool.eq_false_iff.mpr c32
            subst c32
            have H1 : (rival_Best.l0 k2 l0 x4_1 ji6 (wrap64 (x22_1 + 1))) = some (r1, r2) := by rw [if_neg (show ¬ (false = true) by decide)] at H; exact H
            clear H
            have H := H1
            clear H1
            have H' := Aside0.mk H
            clear H
            obtain ⟨Ao35, co35, eo35⟩ := Kd.R_slice HO_6.out
            subst eo35
            go_wp2_with (first | (go_at_call 22; (with_reducible refine (rival_met.calls k2 _ _ l0 _ _ x6_2 false _ (tab_below HTb.out (bel HB)) ?side1 ?side2 ?side3 ?side4 A31.out).mono ?_); (case side1 => repeat (first | exact (Kd.C_below HR0.out HB.out) | (with_reducible refine Kd.C_alloc ?_ _) | (with_reducible refine Kd.C_drewN ?_ _) | (with_reducible refine Kd.C_drew ?_))); (case side2 => exact HC0.out); (case side3 => repeat (first | exact (Kd.R_reads' HO_6.out).2.2 | (with_reducible refine Kd.C_alloc ?_ _) | (with_reducible refine Kd.C_drewN ?_ _) | (with_reducible refine Kd.C_drew ?_))); (case side4 => exact (Kd.R_reads' HO_6.out).2.1); rintro e w36 ⟨rfl, hb⟩; have n0_ := Aside0.mk (Kd.R_below (by (with_reducible repeat (first | apply Kd.R_alloc | apply Kd.R_drewN | apply Kd.R_drew)); exact HO_6.out) hb); have n1_ := Aside0.mk (below_step (bel HB) hb); clear HO_6; clear HB; have HO_6 := n0_; have HB := n1_; clear n0_ n1_; (try clear hb); (try clear hb2); (try clear hk); (try clear hi)))
            go_roundg k2
            case measure => have := HK1.out; have := HK2.out; omega
            case rel => exact ⟨(x4_1), (wrap64 (x22_1 + 1)), (by first | rfl | simp [*]), (by first | rfl | simp [*]), H', ⟨by have := HK1.out; have := HK2.out; omega⟩, ⟨bel HB⟩⟩
          ·rw [if_neg c30] at H
           have c30b0 : decide (x4_1 < x7_2) = false := decide_eq_false c30
           clear c30
           have H' := Aside0.mk H
           clear H
           go_wp2
           go_roundg k2
           case measure => have := HK1.out; have := HK2.out; omega
           case rel => exact ⟨(x4_1), (wrap64 (x22_1 + 1)), (by first | rfl | simp [*]), (by first | rfl | simp [*]), H', ⟨by have := HK1.out; have := HK2.out; omega⟩, ⟨bel HB⟩⟩
         ·replace c29 := Bool.eq_false_iff.mpr c29
          subst c29
          have H1 : (rival_Best.l0 k2 l0 x4_1 ji6 (wrap64 (x22_1 + 1))) = some (r1, r2) := by rw [if_neg (show ¬ (false = true) by decide)] at H; exact H
          clear H
          have H := H1
          clear H1
          have H' := Aside0.mk H
          clear H
          go_wp2
          go_roundg k2
          case measure => have := HK1.out; have := HK2.out; omega
          case rel => exact ⟨(x4_1), (wrap64 (x22_1 + 1)), (by first | rfl | simp [*]), (by first | rfl | simp [*]), H', ⟨by have := HK1.out; have := HK2.out; omega⟩, ⟨bel HB⟩⟩
     ·rw [if_neg c8] at H
      have c8b0 : decide (x22_1 < ji6) = false := decide_eq_false c8
      clear c8
      simp only [Option.some.injEq, Prod.mk.injEq] at H
      obtain ⟨rfl, rfl⟩ := H
      go_wp2
      go_ret2
      exact ⟨by first | rfl | (simp [errW_none, errW_some] <;> rfl) | (simp only [← hji6]; first | rfl | (simp [errW_none, errW_some] <;> rfl)) | (simp [*, errW_none, errW_some] <;> rfl), bel HB⟩
 ·replace c3 := Bool.eq_false_iff.mpr c3
  subst c3
  have H1 : (some (0, 1)) = some (r1, r2) := by rw [if_neg (show ¬ (false = true) by decide)] at H; exact H
  clear H
  have H := H1
  clear H1
  simp only [Option.some.injEq, Prod.mk.injEq] at H
  obtain ⟨rfl, rfl⟩ := H
  go_enter Tryz.func8, Tryz.ntmps8
  go_wp2_with (first | ((with_reducible refine gate_callee (f := 20) rfl ?_); refine goesL_ (some 13) rfl rfl Tryz.func20 (by kernel_rfl) rfl #[.slice A0 l0.length c0] rfl (by (try simp only [List.map_toArray, List.map_cons, List.map_nil]); first | done | rfl | (simp only [List.length_drop, List.length_take]; rfl)) ?_; (with_reducible refine (job_All.calls _ _ l0 false _ (tab_below HTb.out (bel HB)) ?side1 ?side2 A2.out).mono ?_); (case side1 => repeat (first | exact HR0.out | (with_reducible refine Kd.C_alloc ?_ _) | (with_reducible refine Kd.C_drewN ?_ _) | (with_reducible refine Kd.C_drew ?_))); (case side2 => exact HC0.out); rintro e w37 ⟨rfl, hb⟩; refine ⟨_, rfl, ?_⟩; have n0_ := Aside0.mk (below_step (bel HB) hb); clear HB; have HB := n0_; clear n0_; (try clear hb); (try clear hb2); (try clear hk); (try clear hi)))
  go_ret2
  exact ⟨by first | rfl | (simp [*] <;> rfl), bel HB⟩


/-! ### trace_DoneAt: function 58 -/
mutual
def trace_DoneAt.j0 : Nat → List (S45) → List Int → Int → Bool → Option (Int × Bool)
 | 0, _, _, _, _ => none
 | k + 1, x0, x1, x2, x23 => if x23 = true then (some (0, false)) else (if 0 ≤ x2 then (if x2 < (x0.length : Int) then ((job_Work.f ((rd_T45 x0 x2).f0) ((rd_T45 x0 x2).f1) ((rd_T45 x0 x2).f2) ((rd_T45 x0 x2).f3) ((rd_T45 x0 x2).f4) ((rd_T45 x0 x2).f5) ((rd_T45 x0 x2).f6) ((rd_T45 x0 x2).f7)).bind fun t120 => (trace_DoneAt.l0 k x2 t120 x1 (x1.length : Int) 0)) else (none)) else (none))
def trace_DoneAt.l0 : Nat → Int → Int → List Int → Int → Int → Option (Int × Bool)
 | 0, _, _, _, _, _ => none
 | k + 1, x2, x8, x29, x30, x31 => if x31 < x30 then (if 0 ≤ x31 then (if x31 < (x29.length : Int) then (if (rd x29 x31) = x2 then (if (wrap64 (x8 - 1)) = 0 then (some (wrap64 (x31 + 1), true)) else (trace_DoneAt.l0 k x2 (wrap64 (x8 - 1)) x29 x30 (wrap64 (x31 + 1)))) else (if x8 = 0 then (some (wrap64 (x31 + 1), true)) else (trace_DoneAt.l0 k x2 x8 x29 x30 (wrap64 (x31 + 1))))) else (none)) else (none)) else (some (0, false))
end
def trace_DoneAt.f (k : Nat) (l0 : List (S45)) (l1 : List Int) (a2 : Int) : Option (Int × Bool) := if a2 < 0 then (trace_DoneAt.j0 k l0 l1 a2 true) else (if a2 ≥ (l0.length : Int) then (trace_DoneAt.j0 k l0 l1 a2 true) else ((job_All.f l0).bind fun t118 => (trace_DoneAt.j0 k l0 l1 a2 (!t118))))
set_option maxHeartbeats 8000000 in
set_option maxRecDepth 100000 in
theorem trace_DoneAt.calls (k : Nat) (A0 : Option Addr) (c0 : Nat) (l0 : List (S45)) (A1 : Option Addr) (c1 : Nat) (l1 : List Int) (a2 : Int) (r1 : Int) (r2 : Bool) (w : World) (hTb : Tab w) (hr0 : Kd.C k45 w A0 l0.length l0) (hc0 : l0.length ≤ c0) (hr1 : Kd.C (Kd.int .i64) w A1 l1.length l1) (hc1 : l1.length ≤ c1) (h : trace_DoneAt.f k l0 l1 a2 = some (r1, r2)) :
  Calls Tryz.prog 58 #[.slice A0 l0.length c0, .slice A1 l1.length c1, .int .i64 a2] w fun e w' => e = .returned (.tuple #[.int .i64 r1, .bool r2]) ∧ Below w.heap.size w w' := by
 have HTb := Aside0.mk hTb
 clear hTb
 have hu45 := Tryz.underlying45
 have HR0 := Aside0.mk hr0
 have HC0 := Aside0.mk hc0
 clear hr0 hc0
 have HR1 := Aside0.mk hr1
 have HC1 := Aside0.mk hc1
 clear hr1 hc1
 have HB := Aside0.mk (Below.refl w.heap.size w)
 have H : (if a2 < 0 then (trace_DoneAt.j0 k l0 l1 a2 true) else (if a2 ≥ (l0.length : Int) then (trace_DoneAt.j0 k l0 l1 a2 true) else ((job_All.f l0).bind fun t118 => (trace_DoneAt.j0 k l0 l1 a2 (!t118))))) = some (r1, r2) := h
 clear h
 have HC4 := Aside0.mk H
 clear H
 go_enter Tryz.func58, Tryz.ntmps58
 go_upto_region 1 with (fail)
 go_cut [23] (fun v23 wc => ∃ (kq : Nat) (x23_3 : Bool), v23 = .bool x23_3 ∧ Aside0 (trace_DoneAt.j0 kq l0 l1 a2 x23_3 = some (r1, r2)) ∧ Aside0 (kq ≤ k) ∧ Aside0 (Below w.heap.size w wc))
 case first =>
  have H := HC4.out
  clear HC4
  by_cases c5 : a2 < 0
  ·rw [if_pos c5] at H
   have c5b0 : decide (a2 < 0) = true := decide_eq_true c5
   clear c5
   (first | rw [c5b0] | (simp only [i64_w, i32_w]; rw [c5b0]) | skip)
   have H' := Aside0.mk H
   clear H
   go_wp2
   go_meet
   case rel => exact ⟨_, (true), (by first | rfl | simp [*]), H', ⟨by first | omega | exact Nat.le_refl _⟩, ⟨bel HB⟩⟩
  ·rw [if_neg c5] at H
   have c5b0 : decide (a2 < 0) = false := decide_eq_false c5
   clear c5
   (first | rw [c5b0] | (simp only [i64_w, i32_w]; rw [c5b0]) | skip)
   by_cases c6 : a2 ≥ (l0.length : Int)
   ·rw [if_pos c6] at H
    have c6b0 : decide ((l0.length : Int) ≤ a2) = true := decide_eq_true c6
    clear c6
    have H' := Aside0.mk H
    clear H
    go_wp2
    go_meet
    case rel => exact ⟨_, (true), (by first | rfl | simp [*]), H', ⟨by first | omega | exact Nat.le_refl _⟩, ⟨bel HB⟩⟩
   ·rw [if_neg c6] at H
    have c6b0 : decide ((l0.length : Int) ≤ a2) = false := decide_eq_false c6
    clear c6
    replace H := Option.bind_eq_some_iff.mp H
    obtain ⟨t118, A70, H⟩ := H
    replace H : (trace_DoneAt.j0 k l0 l1 a2 (!t118)) = some (r1, r2) := H
    have A7 := Aside0.mk A70
    clear A70
    have H' := Aside0.mk H
    clear H
    go_wp2_with (first | (go_at_call 20; (with_reducible refine (job_All.calls _ _ l0 t118 _ (tab_below HTb.out (bel HB)) ?side1 ?side2 A7.out).mono ?_); (case side1 => repeat (first | exact (Kd.C_below HR0.out HB.out) | (with_reducible refine Kd.C_alloc ?_ _) | (with_reducible refine Kd.C_drewN ?_ _) | (with_reducible refine Kd.C_drew ?_))); (case side2 => exact HC0.out); rintro e w8 ⟨rfl, hb⟩; have n0_ := Aside0.mk (below_step (bel HB) hb); clear HB; have HB := n0_; clear n0_; (try clear hb); (try clear hb2); (try clear hk); (try clear hi)))
    go_meet
    case rel => exact ⟨_, (!t118), (by first | rfl | simp [*]), H', ⟨by first | omega | exact Nat.le_refl _⟩, ⟨bel HB⟩⟩
 case rest =>
  clear HC4
  try clear c1
  try clear p2
  try clear c5
  try clear c5b0
  try clear c6
  try clear c6b0
  obtain ⟨kq, x23_3, rfl, HA, HJ3, HB⟩ := hcut
  cases kq with
  | zero => exact absurd HA.out (by simp [trace_DoneAt.j0])
  | succ kj3 =>
   have H := HA.out
   clear HA
   simp only [trace_DoneAt.j0] at H
   by_cases c9 : x23_3 = true
   ·subst c9
    have H1 : (some (0, false)) = some (r1, r2) := by rw [if_pos rfl] at H; exact H
    clear H
    have H := H1
    clear H1
    simp only [Option.some.injEq, Prod.mk.injEq] at H
    obtain ⟨rfl, rfl⟩ := H
    go_wp2
    go_ret2
    exact ⟨by first | rfl | (simp [*] <;> rfl), bel HB⟩
   ·replace c9 := Bool.eq_false_iff.mpr c9
    subst c9
    have H1 : (if 0 ≤ a2 then (if a2 < (l0.length : Int) then ((job_Work.f ((rd_T45 l0 a2).f0) ((rd_T45 l0 a2).f1) ((rd_T45 l0 a2).f2) ((rd_T45 l0 a2).f3) ((rd_T45 l0 a2).f4) ((rd_T45 l0 a2).f5) ((rd_T45 l0 a2).f6) ((rd_T45 l0 a2).f7)).bind fun t120 => (trace_DoneAt.l0 kj3 a2 t120 l1 (l1.length : Int) 0)) else (none)) else (none)) = some (r1, r2) := by rw [if_neg (show ¬ (false = true) by decide)] at H; exact H
    clear H
    have H := H1
    clear H1
    by_cases c10 : 0 ≤ a2
    ·rw [if_pos c10] at H
     have c10b0 : decide (0 ≤ a2) = true := decide_eq_true c10
     clear c10
     by_cases c11 : a2 < (l0.length : Int)
     ·rw [if_pos c11] at H
      have c11b0 : decide (a2 < (l0.length : Int)) = true := decide_eq_true c11
      clear c11
      replace H := Option.bind_eq_some_iff.mp H
      obtain ⟨t120, A120, H⟩ := H
      replace H : (trace_DoneAt.l0 kj3 a2 t120 l1 (l1.length : Int) 0) = some (r1, r2) := H
      have A12 := Aside0.mk A120
      clear A120
      have H' := Aside0.mk H
      clear H
      have p119 : 0 ≤ (a2 : Int) := of_decide_eq_true ‹_›
      have q119 : a2 < (l0.length : Int) := of_decide_eq_true ‹_›
      obtain ⟨ad119, e119, hx119_0, hx119_1, hx119_2, hx119_3, hx119_4, hx119_5, hx119_6, hx119_7⟩ := at_T45 HR0.out a2 p119 q119
      cases e119
      replace hx119_0 := bl HB hx119_0
      replace hx119_1 := bl HB hx119_1
      replace hx119_2 := bl HB hx119_2
      replace hx119_3 := bl HB hx119_3
      replace hx119_4 := bl HB hx119_4
      replace hx119_5 := bl HB hx119_5
      replace hx119_6 := bl HB hx119_6
      replace hx119_7 := bl HB hx119_7
      replace p119 := eq_true p119
      replace q119 := eq_true q119
      go_wp2_with (first | ((with_reducible refine gate_callee (f := 36) rfl ?_); refine goesL_ (some 28) rfl rfl Tryz.func36 (by kernel_rfl) rfl #[.agg #[.string ((rd_T45 l0 a2).f0), .int .i64 ((rd_T45 l0 a2).f1), .int .i64 ((rd_T45 l0 a2).f2), .int .i64 ((rd_T45 l0 a2).f3), .int .i64 ((rd_T45 l0 a2).f4), .int .i64 ((rd_T45 l0 a2).f5), .int .i64 ((rd_T45 l0 a2).f6), .bool ((rd_T45 l0 a2).f7)]] rfl (by (try simp only [List.map_toArray, List.map_cons, List.map_nil]); first | done | rfl | (simp only [List.length_drop, List.length_take]; rfl)) ?_; (with_reducible refine (job_Work.calls ((rd_T45 l0 a2).f0) ((rd_T45 l0 a2).f1) ((rd_T45 l0 a2).f2) ((rd_T45 l0 a2).f3) ((rd_T45 l0 a2).f4) ((rd_T45 l0 a2).f5) ((rd_T45 l0 a2).f6) ((rd_T45 l0 a2).f7) t120 _ (tab_below HTb.out (bel HB)) A12.out).mono ?_); rintro e w13 ⟨rfl, hb⟩; refine ⟨_, rfl, ?_⟩; have n0_ := Aside0.mk (below_step (bel HB) hb); clear HB; have HB := n0_; clear n0_; (try clear hb); (try clear hb2); (try clear hk); (try clear hi)))
      go_loopg [8, 31] kj3 (fun kq v8 v31 w' => ∃ (x8_2 : Int) (x31_2 : Int), v8 = .int .i64 x8_2 ∧ v31 = .int .i64 x31_2 ∧ Aside0 (trace_DoneAt.l0 kq a2 x8_2 l1 (l1.length : Int) x31_2 = some (r1, r2)) ∧ Aside0 (kq ≤ kj3) ∧ Aside0 (Below w.heap.size w w'))
      case atStart => exact ⟨(t120), (0), (by first | rfl | simp [*]), (by first | rfl | simp [*]), H', ⟨Nat.le_refl _⟩, ⟨bel HB⟩⟩
      case round =>
       clear H'
       try clear c1
       try clear p1
       try clear q1
       try clear hx1
       try clear p2
       try clear c3
       try clear c5
       try clear c5b0
       try clear c6
       try clear c6b0
       try clear c9
       try clear c10
       try clear c10b0
       try clear c11
       try clear c11b0
       try clear p11
       try clear q11
       try clear hx11
       try clear hx119_0
       try clear hx119_1
       try clear hx119_2
       try clear hx119_3
       try clear hx119_4
       try clear hx119_5
       try clear hx119_6
       try clear hx119_7
       try clear p119
       try clear p2
       try clear q119
       obtain ⟨x8_2, x31_2, rfl, rfl, HA, HK2, HB⟩ := hrel
       cases gk with
       | zero => exact absurd HA.out (by simp [trace_DoneAt.l0])
       | succ k2 =>
        have H := HA.out
        clear HA
        simp only [trace_DoneAt.l0] at H
        by_cases c14 : x31_2 < (l1.length : Int)
        ·rw [if_pos c14] at H
         have c14b0 : decide (x31_2 < (l1.length : Int)) = true := decide_eq_true c14
         clear c14
         by_cases c15 : 0 ≤ x31_2
         ·rw [if_pos c15] at H
          have c15b0 : decide (0 ≤ x31_2) = true := decide_eq_true c15
          clear c15
          by_cases c16 : x31_2 < (l1.length : Int)
          ·rw [if_pos c16] at H
           have c16b0 : decide (x31_2 < (l1.length : Int)) = true := decide_eq_true c16
           clear c16
           by_cases c17 : (rd l1 x31_2) = a2
           ·rw [if_pos c17] at H
            have c17b0 : ((rd l1 x31_2) == a2) = true := beq_iff_eq.mpr c17
            have c17b1 : ((rd l1 x31_2) != a2) = false := bne_eq_false_iff_eq.mpr c17
            clear c17
            by_cases c18 : (wrap64 (x8_2 - 1)) = 0
            ·rw [if_pos c18] at H
             have c18b0 : ((wrap64 (x8_2 - 1)) == 0) = true := beq_iff_eq.mpr c18
             have c18b1 : ((wrap64 (x8_2 - 1)) != 0) = false := bne_eq_false_iff_eq.mpr c18
             clear c18
             simp only [Option.some.injEq, Prod.mk.injEq] at H
             obtain ⟨rfl, rfl⟩ := H
             have p121 : 0 ≤ (x31_2 : Int) := of_decide_eq_true ‹_›
             have q121 : x31_2 < (l1.length : Int) := of_decide_eq_true ‹_›
             obtain ⟨ad121, e121, hx121_0⟩ := Kd.at_int HR1.out x31_2 p121 q121
             cases e121
             replace hx121_0 := bl HB hx121_0
             replace p121 := eq_true p121
             replace q121 := eq_true q121
             go_wp2
             go_ret2
             exact ⟨by first | rfl | (simp [*] <;> rfl), bel HB⟩
            ·rw [if_neg c18] at H
             have c18b0 : ((wrap64 (x8_2 - 1)) == 0) = false := beq_eq_false_iff_ne.mpr c18
             have c18b1 : ((wrap64 (x8_2 - 1)) != 0) = true := bne_iff_ne.mpr c18
             have H' := Aside0.mk H
             clear H
             have p121 : 0 ≤ (x31_2 : Int) := of_decide_eq_true ‹_›
             have q121 : x31_2 < (l1.length : Int) := of_decide_eq_true ‹_›
             obtain ⟨ad121, e121, hx121_0⟩ := Kd.at_int HR1.out x31_2 p121 q121
             cases e121
             replace hx121_0 := bl HB hx121_0
             replace p121 := eq_true p121
             replace q121 := eq_true q121
             go_wp2
             go_roundg k2
             case measure => have := HJ3.out; have := HK2.out; omega
             case rel => exact ⟨(wrap64 (x8_2 - 1)), (wrap64 (x31_2 + 1)), (by first | rfl | simp [*]), (by first | rfl | simp [*]), H', ⟨by have := HJ3.out; have := HK2.out; omega⟩, ⟨bel HB⟩⟩
           ·rw [if_neg c17] at H
            have c17b0 : ((rd l1 x31_2) == a2) = false := beq_eq_false_iff_ne.mpr c17
            have c17b1 : ((rd l1 x31_2) != a2) = true := bne_iff_ne.mpr c17
            by_cases c19 : x8_2 = 0
            ·rw [if_pos c19] at H
             have c19b0 : (x8_2 == 0) = true := beq_iff_eq.mpr c19
             have c19b1 : (x8_2 != 0) = false := bne_eq_false_iff_eq.mpr c19
             clear c19
             simp only [Option.some.injEq, Prod.mk.injEq] at H
             obtain ⟨rfl, rfl⟩ := H
             have p121 : 0 ≤ (x31_2 : Int) := of_decide_eq_true ‹_›
             have q121 : x31_2 < (l1.length : Int) := of_decide_eq_true ‹_›
             obtain ⟨ad121, e121, hx121_0⟩ := Kd.at_int HR1.out x31_2 p121 q121
             cases e121
             replace hx121_0 := bl HB hx121_0
             replace p121 := eq_true p121
             replace q121 := eq_true q121
             go_wp2
             go_ret2
             exact ⟨by first | rfl | (simp [*] <;> rfl), bel HB⟩
            ·rw [if_neg c19] at H
             have c19b0 : (x8_2 == 0) = false := beq_eq_false_iff_ne.mpr c19
             have c19b1 : (x8_2 != 0) = true := bne_iff_ne.mpr c19
             have H' := Aside0.mk H
             clear H
             have p121 : 0 ≤ (x31_2 : Int) := of_decide_eq_true ‹_›
             have q121 : x31_2 < (l1.length : Int) := of_decide_eq_true ‹_›
             obtain ⟨ad121, e121, hx121_0⟩ := Kd.at_int HR1.out x31_2 p121 q121
             cases e121
             replace hx121_0 := bl HB hx121_0
             replace p121 := eq_true p121
             replace q121 := eq_true q121
             go_wp2
             go_roundg k2
             case measure => have := HJ3.out; have := HK2.out; omega
             case rel => exact ⟨(x8_2), (wrap64 (x31_2 + 1)), (by first | rfl | simp [*]), (by first | rfl | simp [*]), H', ⟨by have := HJ3.out; have := HK2.out; omega⟩, ⟨bel HB⟩⟩
          ·rw [if_neg c16] at H
           exact absurd H (by simp)
         ·rw [if_neg c15] at H
          exact absurd H (by simp)
        ·rw [if_neg c14] at H
         have c14b0 : decide (x31_2 < (l1.length : Int)) = false := decide_eq_false c14
         clear c14
         simp only [Option.some.injEq, Prod.mk.injEq] at H
         obtain ⟨rfl, rfl⟩ := H
         go_wp2
         go_ret2
         exact ⟨by first | rfl | (simp [*] <;> rfl), bel HB⟩
     ·rw [if_neg c11] at H
      exact absurd H (by simp)
    ·rw [if_neg c10] at H
     exact absurd H (by simp)

/-! ### trace_MetBy: function 37 -/
def trace_MetBy.f (k : Nat) (l0 : List (S45)) (l1 : List Int) (a2 : Int) : Option (Bool) := (trace_DoneAt.f k l0 l1 a2).bind fun bt122 => (if bt122.2 = true then (if 0 ≤ a2 then (if a2 < (l0.length : Int) then (if bt122.1 ≤ ((rd_T45 l0 a2).f2) then ((job_Runs.f ((rd_T45 l0 a2).f0) ((rd_T45 l0 a2).f1) ((rd_T45 l0 a2).f2) ((rd_T45 l0 a2).f3) ((rd_T45 l0 a2).f4) ((rd_T45 l0 a2).f5) ((rd_T45 l0 a2).f6) ((rd_T45 l0 a2).f7)).bind fun t126 => (some t126)) else (some false)) else (none)) else (none)) else (some false))
set_option maxHeartbeats 8000000 in
set_option maxRecDepth 100000 in
theorem trace_MetBy.calls (k : Nat) (A0 : Option Addr) (c0 : Nat) (l0 : List (S45)) (A1 : Option Addr) (c1 : Nat) (l1 : List Int) (a2 : Int) (r : Bool) (w : World) (hTb : Tab w) (hr0 : Kd.C k45 w A0 l0.length l0) (hc0 : l0.length ≤ c0) (hr1 : Kd.C (Kd.int .i64) w A1 l1.length l1) (hc1 : l1.length ≤ c1) (h : trace_MetBy.f k l0 l1 a2 = some r) :
  Calls Tryz.prog 37 #[.slice A0 l0.length c0, .slice A1 l1.length c1, .int .i64 a2] w fun e w' => e = .returned (.bool r) ∧ Below w.heap.size w w' := by
 have HTb := Aside0.mk hTb
 clear hTb
 have hu45 := Tryz.underlying45
 have HR0 := Aside0.mk hr0
 have HC0 := Aside0.mk hc0
 clear hr0 hc0
 have HR1 := Aside0.mk hr1
 have HC1 := Aside0.mk hc1
 clear hr1 hc1
 have HB := Aside0.mk (Below.refl w.heap.size w)
 have H : ((trace_DoneAt.f k l0 l1 a2).bind fun bt122 => (if bt122.2 = true then (if 0 ≤ a2 then (if a2 < (l0.length : Int) then (if bt122.1 ≤ ((rd_T45 l0 a2).f2) then ((job_Runs.f ((rd_T45 l0 a2).f0) ((rd_T45 l0 a2).f1) ((rd_T45 l0 a2).f2) ((rd_T45 l0 a2).f3) ((rd_T45 l0 a2).f4) ((rd_T45 l0 a2).f5) ((rd_T45 l0 a2).f6) ((rd_T45 l0 a2).f7)).bind fun t126 => (some t126)) else (some false)) else (none)) else (none)) else (some false))) = some r := h
 clear h
 replace H := Option.bind_eq_some_iff.mp H
 obtain ⟨⟨t122, t123⟩, A40, H⟩ := H
 replace H : (if t123 = true then (if 0 ≤ a2 then (if a2 < (l0.length : Int) then (if t122 ≤ ((rd_T45 l0 a2).f2) then ((job_Runs.f ((rd_T45 l0 a2).f0) ((rd_T45 l0 a2).f1) ((rd_T45 l0 a2).f2) ((rd_T45 l0 a2).f3) ((rd_T45 l0 a2).f4) ((rd_T45 l0 a2).f5) ((rd_T45 l0 a2).f6) ((rd_T45 l0 a2).f7)).bind fun t126 => (some t126)) else (some false)) else (none)) else (none)) else (some false)) = some r := H
 have A4 := Aside0.mk A40
 clear A40
 by_cases c5 : t123 = true
 ·subst c5
  have H1 : (if 0 ≤ a2 then (if a2 < (l0.length : Int) then (if t122 ≤ ((rd_T45 l0 a2).f2) then ((job_Runs.f ((rd_T45 l0 a2).f0) ((rd_T45 l0 a2).f1) ((rd_T45 l0 a2).f2) ((rd_T45 l0 a2).f3) ((rd_T45 l0 a2).f4) ((rd_T45 l0 a2).f5) ((rd_T45 l0 a2).f6) ((rd_T45 l0 a2).f7)).bind fun t126 => (some t126)) else (some false)) else (none)) else (none)) = some r := by rw [if_pos rfl] at H; exact H
  clear H
  have H := H1
  clear H1
  by_cases c6 : 0 ≤ a2
  ·rw [if_pos c6] at H
   have c6b0 : decide (0 ≤ a2) = true := decide_eq_true c6
   clear c6
   by_cases c7 : a2 < (l0.length : Int)
   ·rw [if_pos c7] at H
    have c7b0 : decide (a2 < (l0.length : Int)) = true := decide_eq_true c7
    clear c7
    by_cases c8 : t122 ≤ ((rd_T45 l0 a2).f2)
    ·rw [if_pos c8] at H
     have c8b0 : decide (t122 ≤ ((rd_T45 l0 a2).f2)) = true := decide_eq_true c8
     clear c8
     replace H := Option.bind_eq_some_iff.mp H
     obtain ⟨t126, A90, H⟩ := H
     replace H : (some t126) = some r := H
     have A9 := Aside0.mk A90
     clear A90
     obtain rfl := Option.some.inj H
     go_enter Tryz.func37, Tryz.ntmps37
     go_wp2_with (first | ((with_reducible refine gate_callee (f := 58) rfl ?_); refine goesL_ (some 13) rfl rfl Tryz.func58 (by kernel_rfl) rfl #[.slice A0 l0.length c0, .slice A1 l1.length c1, .int .i64 a2] rfl (by (try simp only [List.map_toArray, List.map_cons, List.map_nil]); first | done | rfl | (simp only [List.length_drop, List.length_take]; rfl)) ?_; (with_reducible refine (trace_DoneAt.calls k _ _ l0 _ _ l1 a2 t122 true _ (tab_below HTb.out (bel HB)) ?side1 ?side2 ?side3 ?side4 A4.out).mono ?_); (case side1 => repeat (first | exact HR0.out | (with_reducible refine Kd.C_alloc ?_ _) | (with_reducible refine Kd.C_drewN ?_ _) | (with_reducible refine Kd.C_drew ?_))); (case side2 => exact HC0.out); (case side3 => repeat (first | exact HR1.out | (with_reducible refine Kd.C_alloc ?_ _) | (with_reducible refine Kd.C_drewN ?_ _) | (with_reducible refine Kd.C_drew ?_))); (case side4 => exact HC1.out); rintro e w10 ⟨rfl, hb⟩; refine ⟨_, rfl, ?_⟩; have n0_ := Aside0.mk (below_step (bel HB) hb); clear HB; have HB := n0_; clear n0_; (try clear hb); (try clear hb2); (try clear hk); (try clear hi); have p124 : 0 ≤ (a2 : Int) := of_decide_eq_true ‹_›; have q124 : a2 < (l0.length : Int) := of_decide_eq_true ‹_›; obtain ⟨ad124, e124, hx124_0, hx124_1, hx124_2, hx124_3, hx124_4, hx124_5, hx124_6, hx124_7⟩ := at_T45 HR0.out a2 p124 q124; cases e124; replace hx124_0 := bl HB hx124_0; replace hx124_1 := bl HB hx124_1; replace hx124_2 := bl HB hx124_2; replace hx124_3 := bl HB hx124_3; replace hx124_4 := bl HB hx124_4; replace hx124_5 := bl HB hx124_5; replace hx124_6 := bl HB hx124_6; replace hx124_7 := bl HB hx124_7; replace p124 := eq_true p124; replace q124 := eq_true q124; have p125 : 0 ≤ (a2 : Int) := of_decide_eq_true ‹_›; have q125 : a2 < (l0.length : Int) := of_decide_eq_true ‹_›; obtain ⟨ad125, e125, hx125_0, hx125_1, hx125_2, hx125_3, hx125_4, hx125_5, hx125_6, hx125_7⟩ := at_T45 HR0.out a2 p125 q125; obtain rfl : ad124 = ad125 := (by injection e125); replace hx125_0 := bl HB hx125_0; replace hx125_1 := bl HB hx125_1; replace hx125_2 := bl HB hx125_2; replace hx125_3 := bl HB hx125_3; replace hx125_4 := bl HB hx125_4; replace hx125_5 := bl HB hx125_5; replace hx125_6 := bl HB hx125_6; replace hx125_7 := bl HB hx125_7; replace p125 := eq_true p125; replace q125 := eq_true q125) | (go_at_call 21; (with_reducible refine (job_Runs.calls ((rd_T45 l0 a2).f0) ((rd_T45 l0 a2).f1) ((rd_T45 l0 a2).f2) ((rd_T45 l0 a2).f3) ((rd_T45 l0 a2).f4) ((rd_T45 l0 a2).f5) ((rd_T45 l0 a2).f6) ((rd_T45 l0 a2).f7) t126 _ A9.out).mono ?_); rintro e w11 ⟨rfl, hb⟩; have n0_ := Aside0.mk (below_step (bel HB) hb); clear HB; have HB := n0_; clear n0_; (try clear hb); (try clear hb2); (try clear hk); (try clear hi)))
     go_ret
     exact ⟨by first | rfl | (simp [*] <;> rfl), bel HB⟩
    ·rw [if_neg c8] at H
     have c8b0 : decide (t122 ≤ ((rd_T45 l0 a2).f2)) = false := decide_eq_false c8
     clear c8
     obtain rfl := Option.some.inj H
     go_enter Tryz.func37, Tryz.ntmps37
     go_wp2_with (first | ((with_reducible refine gate_callee (f := 58) rfl ?_); refine goesL_ (some 13) rfl rfl Tryz.func58 (by kernel_rfl) rfl #[.slice A0 l0.length c0, .slice A1 l1.length c1, .int .i64 a2] rfl (by (try simp only [List.map_toArray, List.map_cons, List.map_nil]); first | done | rfl | (simp only [List.length_drop, List.length_take]; rfl)) ?_; (with_reducible refine (trace_DoneAt.calls k _ _ l0 _ _ l1 a2 t122 true _ (tab_below HTb.out (bel HB)) ?side1 ?side2 ?side3 ?side4 A4.out).mono ?_); (case side1 => repeat (first | exact HR0.out | (with_reducible refine Kd.C_alloc ?_ _) | (with_reducible refine Kd.C_drewN ?_ _) | (with_reducible refine Kd.C_drew ?_))); (case side2 => exact HC0.out); (case side3 => repeat (first | exact HR1.out | (with_reducible refine Kd.C_alloc ?_ _) | (with_reducible refine Kd.C_drewN ?_ _) | (with_reducible refine Kd.C_drew ?_))); (case side4 => exact HC1.out); rintro e w12 ⟨rfl, hb⟩; refine ⟨_, rfl, ?_⟩; have n0_ := Aside0.mk (below_step (bel HB) hb); clear HB; have HB := n0_; clear n0_; (try clear hb); (try clear hb2); (try clear hk); (try clear hi); have p124 : 0 ≤ (a2 : Int) := of_decide_eq_true ‹_›; have q124 : a2 < (l0.length : Int) := of_decide_eq_true ‹_›; obtain ⟨ad124, e124, hx124_0, hx124_1, hx124_2, hx124_3, hx124_4, hx124_5, hx124_6, hx124_7⟩ := at_T45 HR0.out a2 p124 q124; cases e124; replace hx124_0 := bl HB hx124_0; replace hx124_1 := bl HB hx124_1; replace hx124_2 := bl HB hx124_2; replace hx124_3 := bl HB hx124_3; replace hx124_4 := bl HB hx124_4; replace hx124_5 := bl HB hx124_5; replace hx124_6 := bl HB hx124_6; replace hx124_7 := bl HB hx124_7; replace p124 := eq_true p124; replace q124 := eq_true q124))
     go_ret
     exact ⟨by first | rfl | (simp [*] <;> rfl), bel HB⟩
   ·rw [if_neg c7] at H
    exact absurd H (by simp)
  ·rw [if_neg c6] at H
   exact absurd H (by simp)
 ·replace c5 := Bool.eq_false_iff.mpr c5
  subst c5
  have H1 : (some false) = some r := by rw [if_neg (show ¬ (false = true) by decide)] at H; exact H
  clear H
  have H := H1
  clear H1
  obtain rfl := Option.some.inj H
  go_enter Tryz.func37, Tryz.ntmps37
  go_wp2_with (first | ((with_reducible refine gate_callee (f := 58) rfl ?_); refine goesL_ (some 13) rfl rfl Tryz.func58 (by kernel_rfl) rfl #[.slice A0 l0.length c0, .slice A1 l1.length c1, .int .i64 a2] rfl (by (try simp only [List.map_toArray, List.map_cons, List.map_nil]); first | done | rfl | (simp only [List.length_drop, List.length_take]; rfl)) ?_; (with_reducible refine (trace_DoneAt.calls k _ _ l0 _ _ l1 a2 t122 false _ (tab_below HTb.out (bel HB)) ?side1 ?side2 ?side3 ?side4 A4.out).mono ?_); (case side1 => repeat (first | exact HR0.out | (with_reducible refine Kd.C_alloc ?_ _) | (with_reducible refine Kd.C_drewN ?_ _) | (with_reducible refine Kd.C_drew ?_))); (case side2 => exact HC0.out); (case side3 => repeat (first | exact HR1.out | (with_reducible refine Kd.C_alloc ?_ _) | (with_reducible refine Kd.C_drewN ?_ _) | (with_reducible refine Kd.C_drew ?_))); (case side4 => exact HC1.out); rintro e w13 ⟨rfl, hb⟩; refine ⟨_, rfl, ?_⟩; have n0_ := Aside0.mk (below_step (bel HB) hb); clear HB; have HB := n0_; clear n0_; (try clear hb); (try clear hb2); (try clear hk); (try clear hi)))
  go_ret
  exact ⟨by first | rfl | (simp [*] <;> rfl), bel HB⟩
end Go.Proofs.YtobkfbkhcghaeaaGreatDoor.PRv
namespace Go.Proofs.YtobkfbkhcghaeaaGreatDoor.PRv
open Go.RowKit Go.Proofs.YtobkfbkhcghaeaaGreatDoorW.PrintWords Go.Proofs.YtobkfbkhcghaeaaGreatDoorW.PrintLast Go.Proofs.YtobkfbkhcghaeaaGreatDoorW.PrintMore
attribute [local go_sem] max2_int min2_int max_two min_two max_three min_three max_four min_four   -- for this text's walks alone
set_option linter.unusedVariables false
set_option linter.unusedSimpArgs false

/-! ### trace_Value: function 19 -/
def trace_Value.l0 : Nat → List (S45) → List Int → Int → Int → Int → Option (Int)
 | 0, _, _, _, _, _ => none
 | k + 1, x0, x1, x5, x8, x9 => if x9 < x8 then ((trace_MetBy.f k x0 x1 x9).bind fun t127 => (if t127 = true then (if 0 ≤ x9 then (if x9 < (x0.length : Int) then (trace_Value.l0 k x0 x1 (wrap64 (x5 + ((rd_T45 x0 x9).f5))) x8 (wrap64 (x9 + 1))) else (none)) else (none)) else (trace_Value.l0 k x0 x1 x5 x8 (wrap64 (x9 + 1))))) else (some x5)
def trace_Value.f (k : Nat) (l0 : List (S45)) (l1 : List Int) : Option (Int) := trace_Value.l0 k l0 l1 0 (l0.length : Int) 0
set_option maxHeartbeats 8000000 in
set_option maxRecDepth 100000 in
theorem trace_Value.calls (k : Nat) (A0 : Option Addr) (c0 : Nat) (l0 : List (S45)) (A1 : Option Addr) (c1 : Nat) (l1 : List Int) (r : Int) (w : World) (hTb : Tab w) (hr0 : Kd.C k45 w A0 l0.length l0) (hc0 : l0.length ≤ c0) (hr1 : Kd.C (Kd.int .i64) w A1 l1.length l1) (hc1 : l1.length ≤ c1) (h : trace_Value.f k l0 l1 = some r) :
  Calls Tryz.prog 19 #[.slice A0 l0.length c0, .slice A1 l1.length c1] w fun e w' => e = .returned (.int .i64 r) ∧ Below w.heap.size w w' := by
 have HTb := Aside0.mk hTb
 clear hTb
 have HR0 := Aside0.mk hr0
 have HC0 := Aside0.mk hc0
 clear hr0 hc0
 have HR1 := Aside0.mk hr1
 have HC1 := Aside0.mk hc1
 clear hr1 hc1
 have HB := Aside0.mk (Below.refl w.heap.size w)
 have H : (trace_Value.l0 k l0 l1 0 (l0.length : Int) 0) = some r := h
 clear h
 have H' := Aside0.mk H
 clear H
 go_enter Tryz.func19, Tryz.ntmps19
 go_wp2
 go_loopg [5, 9] k (fun kq v5 v9 w' => ∃ (x5_1 : Int) (x9_1 : Int), v5 = .int .i64 x5_1 ∧ v9 = .int .i64 x9_1 ∧ Aside0 (trace_Value.l0 kq l0 l1 x5_1 (l0.length : Int) x9_1 = some r) ∧ Aside0 (kq ≤ k) ∧ Aside0 (Below w.heap.size w w'))
 case atStart => exact ⟨(0), (0), (by first | rfl | simp [*]), (by first | rfl | simp [*]), H', ⟨Nat.le_refl _⟩, ⟨bel HB⟩⟩
 case round =>
  clear H'
  try clear c1
  try clear p2
  obtain ⟨x5_1, x9_1, rfl, rfl, HA, HK1, HB⟩ := hrel
  cases gk with
  | zero => exact absurd HA.out (by simp [trace_Value.l0])
  | succ k1 =>
   have H := HA.out
   clear HA
   simp only [trace_Value.l0] at H
   by_cases c3 : x9_1 < (l0.length : Int)
   ·rw [if_pos c3] at H
    have c3b0 : decide (x9_1 < (l0.length : Int)) = true := decide_eq_true c3
    clear c3
    replace H := Option.bind_eq_some_iff.mp H
    obtain ⟨t127, A40, H⟩ := H
    replace H : (if t127 = true then (if 0 ≤ x9_1 then (if x9_1 < (l0.length : Int) then (trace_Value.l0 k1 l0 l1 (wrap64 (x5_1 + ((rd_T45 l0 x9_1).f5))) (l0.length : Int) (wrap64 (x9_1 + 1))) else (none)) else (none)) else (trace_Value.l0 k1 l0 l1 x5_1 (l0.length : Int) (wrap64 (x9_1 + 1)))) = some r := H
    have A4 := Aside0.mk A40
    clear A40
    by_cases c5 : t127 = true
    ·subst c5
     have H1 : (if 0 ≤ x9_1 then (if x9_1 < (l0.length : Int) then (trace_Value.l0 k1 l0 l1 (wrap64 (x5_1 + ((rd_T45 l0 x9_1).f5))) (l0.length : Int) (wrap64 (x9_1 + 1))) else (none)) else (none)) = some r := by rw [if_pos rfl] at H; exact H
     clear H
     have H := H1
     clear H1
     by_cases c6 : 0 ≤ x9_1
     ·rw [if_pos c6] at H
      have c6b0 : decide (0 ≤ x9_1) = true := decide_eq_true c6
      clear c6
      by_cases c7 : x9_1 < (l0.length : Int)
      ·rw [if_pos c7] at H
       have c7b0 : decide (x9_1 < (l0.length : Int)) = true := decide_eq_true c7
       clear c7
       have H' := Aside0.mk H
       clear H
       go_wp2_with (first | ((with_reducible refine gate_callee (f := 37) rfl ?_); refine goesL_ (some 15) rfl rfl Tryz.func37 (by kernel_rfl) rfl #[.slice A0 l0.length c0, .slice A1 l1.length c1, .int .i64 x9_1] rfl (by (try simp only [List.map_toArray, List.map_cons, List.map_nil]); first | done | rfl | (simp only [List.length_drop, List.length_take]; rfl)) ?_; (with_reducible refine (trace_MetBy.calls k1 _ _ l0 _ _ l1 x9_1 true _ (tab_below HTb.out (bel HB)) ?side1 ?side2 ?side3 ?side4 A4.out).mono ?_); (case side1 => repeat (first | exact (Kd.C_below HR0.out HB.out) | (with_reducible refine Kd.C_alloc ?_ _) | (with_reducible refine Kd.C_drewN ?_ _) | (with_reducible refine Kd.C_drew ?_))); (case side2 => exact HC0.out); (case side3 => repeat (first | exact (Kd.C_below HR1.out HB.out) | (with_reducible refine Kd.C_alloc ?_ _) | (with_reducible refine Kd.C_drewN ?_ _) | (with_reducible refine Kd.C_drew ?_))); (case side4 => exact HC1.out); rintro e w8 ⟨rfl, hb⟩; refine ⟨_, rfl, ?_⟩; have n0_ := Aside0.mk (below_step (bel HB) hb); clear HB; have HB := n0_; clear n0_; (try clear hb); (try clear hb2); (try clear hk); (try clear hi); have p128 : 0 ≤ (x9_1 : Int) := of_decide_eq_true ‹_›; have q128 : x9_1 < (l0.length : Int) := of_decide_eq_true ‹_›; obtain ⟨ad128, e128, hx128_0, hx128_1, hx128_2, hx128_3, hx128_4, hx128_5, hx128_6, hx128_7⟩ := at_T45 HR0.out x9_1 p128 q128; cases e128; replace hx128_0 := bl HB hx128_0; replace hx128_1 := bl HB hx128_1; replace hx128_2 := bl HB hx128_2; replace hx128_3 := bl HB hx128_3; replace hx128_4 := bl HB hx128_4; replace hx128_5 := bl HB hx128_5; replace hx128_6 := bl HB hx128_6; replace hx128_7 := bl HB hx128_7; replace p128 := eq_true p128; replace q128 := eq_true q128))
       go_roundg k1
       case measure => have := HK1.out; omega
       case rel => exact ⟨(wrap64 (x5_1 + ((rd_T45 l0 x9_1).f5))), (wrap64 (x9_1 + 1)), (by first | rfl | simp [*]), (by first | rfl | simp [*]), H', ⟨by have := HK1.out; omega⟩, ⟨bel HB⟩⟩
      ·rw [if_neg c7] at H
       exact absurd H (by simp)
     ·rw [if_neg c6] at H
      exact absurd H (by simp)
    ·replace c5 := Bool.eq_false_iff.mpr c5
     subst c5
     have H1 : (trace_Value.l0 k1 l0 l1 x5_1 (l0.length : Int) (wrap64 (x9_1 + 1))) = some r := by rw [if_neg (show ¬ (false = true) by decide)] at H; exact H
     clear H
     have H := H1
     clear H1
     have H' := Aside0.mk H
     clear H
     go_wp2_with (first | ((with_reducible refine gate_callee (f := 37) rfl ?_); refine goesL_ (some 15) rfl rfl Tryz.func37 (by kernel_rfl) rfl #[.slice A0 l0.length c0, .slice A1 l1.length c1, .int .i64 x9_1] rfl (by (try simp only [List.map_toArray, List.map_cons, List.map_nil]); first | done | rfl | (simp only [List.length_drop, List.length_take]; rfl)) ?_; (with_reducible refine (trace_MetBy.calls k1 _ _ l0 _ _ l1 x9_1 false _ (tab_below HTb.out (bel HB)) ?side1 ?side2 ?side3 ?side4 A4.out).mono ?_); (case side1 => repeat (first | exact (Kd.C_below HR0.out HB.out) | (with_reducible refine Kd.C_alloc ?_ _) | (with_reducible refine Kd.C_drewN ?_ _) | (with_reducible refine Kd.C_drew ?_))); (case side2 => exact HC0.out); (case side3 => repeat (first | exact (Kd.C_below HR1.out HB.out) | (with_reducible refine Kd.C_alloc ?_ _) | (with_reducible refine Kd.C_drewN ?_ _) | (with_reducible refine Kd.C_drew ?_))); (case side4 => exact HC1.out); rintro e w9 ⟨rfl, hb⟩; refine ⟨_, rfl, ?_⟩; have n0_ := Aside0.mk (below_step (bel HB) hb); clear HB; have HB := n0_; clear n0_; (try clear hb); (try clear hb2); (try clear hk); (try clear hi)))
     go_roundg k1
     case measure => have := HK1.out; omega
     case rel => exact ⟨(x5_1), (wrap64 (x9_1 + 1)), (by first | rfl | simp [*]), (by first | rfl | simp [*]), H', ⟨by have := HK1.out; omega⟩, ⟨bel HB⟩⟩
   ·rw [if_neg c3] at H
    have c3b0 : decide (x9_1 < (l0.length : Int)) = false := decide_eq_false c3
    clear c3
    obtain rfl := Option.some.inj H
    go_wp2
    go_ret
    exact ⟨by first | rfl | (simp [*] <;> rfl), bel HB⟩
end Go.Proofs.YtobkfbkhcghaeaaGreatDoor.PRv
