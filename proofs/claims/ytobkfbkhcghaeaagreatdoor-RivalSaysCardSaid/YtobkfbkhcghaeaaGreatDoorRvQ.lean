/- functions and contracts as the kit's print.py writes them, the roots chosen in this session (wip/proots.sh)
-- slim functions and contracts as the kit's print.py writes them, the roots chosen in this session (wip/proots.sh)
-- slim functions and contracts as the kit's print.py writes them, the roots chosen in this session (wip/proots.sh)
-- slim functions and contracts as the kit's print.py writes them, the roots chosen in this session (wip/proots.sh)
-- slim -/
import Derived.Test.YtobkfbkhcghaeaaGreatDoorPRvx0
import Derived.Test.YtobkfbkhcghaeaaGreatDoorStRv
import Derived.Test.YtobkfbkhcghaeaaGreatDoorStRf
import Derived.Test.YtobkfbkhcghaeaaGreatDoorRvP
namespace Go.Proofs.YtobkfbkhcghaeaaGreatDoor.PRv
open Go.RowKit Go.Proofs.YtobkfbkhcghaeaaGreatDoorW.PrintWords Go.Proofs.YtobkfbkhcghaeaaGreatDoorW.PrintLast Go.Proofs.YtobkfbkhcghaeaaGreatDoorW.PrintMore
attribute [local go_sem] max2_int min2_int max_two min_two max_three min_three max_four min_four   -- for this text's walks alone
set_option linter.unusedVariables false
set_option linter.unusedSimpArgs false

/-! ### tocsinref8_Greedy: function 11 -/
mutual
def tocsinref8_Greedy.l0 : Nat → List (S46) → List Bool → List Bool → Int → Option (List Int × Int)
 | 0, _, _, _, _ => none
 | k + 1, x0, x4, x5, x6 => if x6 < (x0.length : Int) then (tocsinref8_Greedy.l1 k x0 x4 x5 x6 (-1) 0) else (if 0 ≤ (x0.length : Int) then (if ((x0.length : Int) : Int).toNat ≤ 35184372088832 then (tocsinref8_Greedy.l2 k x0 x4 (List.replicate ((x0.length : Int) : Int).toNat 0) 0) else (none)) else (none))
def tocsinref8_Greedy.l1 : Nat → List (S46) → List Bool → List Bool → Int → Int → Int → Option (List Int × Int)
 | 0, _, _, _, _, _, _ => none
 | k + 1, x0, x4, x5, x6, x7, x8 => if x8 < (x0.length : Int) then (if 0 ≤ x8 then (if x8 < (x5.length : Int) then (if rdOf false x5 x8 = true then (tocsinref8_Greedy.l1 k x0 x4 x5 x6 x7 (wrap64 (x8 + 1))) else (if x7 < 0 then (tocsinref8_Greedy.l1 k x0 x4 x5 x6 x8 (wrap64 (x8 + 1))) else (if 0 ≤ x7 then (if x7 < (x0.length : Int) then (if ((rd_T46 x0 x8).f5) > ((rd_T46 x0 x7).f5) then (tocsinref8_Greedy.l1 k x0 x4 x5 x6 x8 (wrap64 (x8 + 1))) else (tocsinref8_Greedy.l1 k x0 x4 x5 x6 x7 (wrap64 (x8 + 1)))) else (none)) else (none)))) else (none)) else (none)) else (if 0 ≤ x7 then (if x7 < (x5.length : Int) then ((some (x5.set (x7 : Int).toNat true : List Bool)).bind fun y254 => (if x7 < (x4.length : Int) then ((some (x4.set (x7 : Int).toNat true : List Bool)).bind fun y255 => ((tocsinref8_can.f k x0 y255).bind fun t256 => (if t256 = true then (tocsinref8_Greedy.l0 k x0 y255 y254 (wrap64 (x6 + 1))) else (tocsinref8_Greedy.l0 k x0 (y255.set (x7 : Int).toNat false) y254 (wrap64 (x6 + 1)))))) else (none))) else (none)) else (none))
def tocsinref8_Greedy.l2 : Nat → List (S46) → List Bool → List Int → Int → Option (List Int × Int)
 | 0, _, _, _, _ => none
 | k + 1, x0, x4, x9, x10 => if x10 < (x0.length : Int) then (if 0 ≤ x10 then (if x10 < (x4.length : Int) then (if rdOf false x4 x10 = true then (if x10 < (x9.length : Int) then (tocsinref8_Greedy.l2 k x0 x4 (x9.set (x10 : Int).toNat ((rd_T46 x0 x10).f4)) (wrap64 (x10 + 1))) else (none)) else (tocsinref8_Greedy.l2 k x0 x4 x9 (wrap64 (x10 + 1)))) else (none)) else (none)) else ((tocsinref8_End.f k x0).bind fun t264 => ((tocsinref8_run.f k x0 x9 t264).bind fun t265 => (some (t265, 0))))
end
def tocsinref8_Greedy.f (k : Nat) (l0 : List (S46)) : Option (List Int × Int) := (tocsinref8_All.f k l0).bind fun t244 => (if t244 = true then (if 0 ≤ (l0.length : Int) then (if ((l0.length : Int) : Int).toNat ≤ 281474976710656 then (tocsinref8_Greedy.l0 k l0 (List.replicate ((l0.length : Int) : Int).toNat false) (List.replicate ((l0.length : Int) : Int).toNat false) 0) else (none)) else (none)) else (some (([] : List Int), 1)))
def tocsinref8_Greedy.T3 : Bool × List (List Nat × List Nat) := (true, [([], []), ([0], [0]), ([1, 1], [1]), ([], []), ([3], [3]), ([4, 4], [4]), ([2, 0, 1, 2], [2]), ([5, 6, 0, 1, 2, 3, 4, 5, 6], [5])])
def tocsinref8_Greedy.B3 : List Nat := [0, 1, 3, 0, 8, 24, 7, 127]
theorem tocsinref8_Greedy.tab3 : rtab .any (opsOf Tryz.f11 3) = tocsinref8_Greedy.T3 := by kernel_rfl
theorem tocsinref8_Greedy.bits3 : waitsOk tocsinref8_Greedy.T3.2 tocsinref8_Greedy.B3 = true := by kernel_rfl
def tocsinref8_Greedy.T11 : Bool × List (List Nat × List Nat) := (true, [([], []), ([], []), ([0, 1], [0, 1]), ([2], [2]), ([3], [3]), ([4], [4]), ([5], [5]), ([6, 5], [5, 6]), ([7, 5, 5], [5, 7]), ([8], [8]), ([8], [8]), ([9, 10, 8], [8, 9, 10]), ([11, 8], [8, 11]), ([12, 8], [8, 12]), ([8], [8]), ([8], [8]), ([14, 15, 8], [8, 14, 15]), ([16, 8], [8, 16]), ([17, 8], [8, 17]), ([13, 18, 8], [8, 13, 18]), ([8, 19, 5], [5, 8, 19]), ([5, 20], [5, 20])])
def tocsinref8_Greedy.B11 : List Nat := [0, 0, 3, 7, 15, 31, 63, 127, 255, 511, 511, 2047, 4095, 8191, 511, 511, 49663, 115199, 246271, 524287, 1048575, 2097151]
theorem tocsinref8_Greedy.tab11 : rtab .any (opsOf Tryz.f11 11) = tocsinref8_Greedy.T11 := by kernel_rfl
theorem tocsinref8_Greedy.bits11 : waitsOk tocsinref8_Greedy.T11.2 tocsinref8_Greedy.B11 = true := by kernel_rfl
set_option maxHeartbeats 8000000 in
set_option maxRecDepth 100000 in
theorem tocsinref8_Greedy.calls (k : Nat) (A0 : Option Addr) (c0 : Nat) (l0 : List (S46)) (r1 : List Int) (r2 : Int) (w : World) (hTb : Tab w) (hr0 : Kd.C k46 w A0 l0.length l0) (hc0 : l0.length ≤ c0) (h : tocsinref8_Greedy.f k l0 = some (r1, r2)) :
  Calls Tryz.prog 11 #[.slice A0 l0.length c0] w fun e w' => ∃ v0_ : Value, e = .returned (.tuple #[v0_, .int .i64 r2]) ∧ Kd.R (Kd.int .i64) 3 w' w.heap.size (fun _ => True) v0_ r1 ∧ Below w.heap.size w w' := by
 have HTb := Aside0.mk hTb
 clear hTb
 have HR0 := Aside0.mk hr0
 have HC0 := Aside0.mk hc0
 clear hr0 hc0
 have HB := Aside0.mk (Below.refl w.heap.size w)
 have H : ((tocsinref8_All.f k l0).bind fun t244 => (if t244 = true then (if 0 ≤ (l0.length : Int) then (if ((l0.length : Int) : Int).toNat ≤ 281474976710656 then (tocsinref8_Greedy.l0 k l0 (List.replicate ((l0.length : Int) : Int).toNat false) (List.replicate ((l0.length : Int) : Int).toNat false) 0) else (none)) else (none)) else (some (([] : List Int), 1)))) = some (r1, r2) := h
 clear h
 replace H := Option.bind_eq_some_iff.mp H
 obtain ⟨t244, A20, H⟩ := H
 replace H : (if t244 = true then (if 0 ≤ (l0.length : Int) then (if ((l0.length : Int) : Int).toNat ≤ 281474976710656 then (tocsinref8_Greedy.l0 k l0 (List.replicate ((l0.length : Int) : Int).toNat false) (List.replicate ((l0.length : Int) : Int).toNat false) 0) else (none)) else (none)) else (some (([] : List Int), 1))) = some (r1, r2) := H
 have A2 := Aside0.mk A20
 clear A20
 by_cases c3 : t244 = true
 ·subst c3
  have H1 : (if 0 ≤ (l0.length : Int) then (if ((l0.length : Int) : Int).toNat ≤ 281474976710656 then (tocsinref8_Greedy.l0 k l0 (List.replicate ((l0.length : Int) : Int).toNat false) (List.replicate ((l0.length : Int) : Int).toNat false) 0) else (none)) else (none)) = some (r1, r2) := by rw [if_pos rfl] at H; exact H
  clear H
  have H := H1
  clear H1
  by_cases c4 : 0 ≤ (l0.length : Int)
  ·rw [if_pos c4] at H
   have c4b0 := eq_true c4
   have c4b1 : decide (0 ≤ (l0.length : Int)) = true := decide_eq_true c4
   clear c4
   by_cases c5 : ((l0.length : Int) : Int).toNat ≤ 281474976710656
   ·rw [if_pos c5] at H
    have c5b0 := eq_true c5
    have c5b1 : decide (((l0.length : Int) : Int).toNat ≤ 281474976710656) = true := decide_eq_true c5
    clear c5
    obtain ⟨y245, hy245⟩ : ∃ y_ : List Bool, y_ = (List.replicate ((l0.length : Int) : Int).toNat false) := ⟨_, rfl⟩
    replace H : (tocsinref8_Greedy.l0 k l0 y245 (List.replicate ((l0.length : Int) : Int).toNat false) 0) = some (r1, r2) := by first | (rw [hy245]; with_reducible exact H) | (have H2_ := (Option.bind_some _ _).symm.trans H; rw [hy245]; with_reducible exact H2_) | (have H2_ := (Option.bind_some _ _).symm.trans H; with_reducible exact H2_) | with_reducible exact H | (rw [hy245]; exact H) | exact H
    have Ny245 := Aside0.mk hy245
    clear hy245
    obtain ⟨y248, hy248⟩ : ∃ y_ : List Bool, y_ = (List.replicate ((l0.length : Int) : Int).toNat false) := ⟨_, rfl⟩
    replace H : (tocsinref8_Greedy.l0 k l0 y245 y248 0) = some (r1, r2) := by first | (rw [hy248]; with_reducible exact H) | (have H2_ := (Option.bind_some _ _).symm.trans H; rw [hy248]; with_reducible exact H2_) | (have H2_ := (Option.bind_some _ _).symm.trans H; with_reducible exact H2_) | with_reducible exact H | (rw [hy248]; exact H) | exact H
    have Ny248 := Aside0.mk hy248
    clear hy248
    have H' := Aside0.mk H
    clear H
    go_enter Tryz.func11, Tryz.ntmps11
    try go_wp2_with (first | ((with_reducible refine gate_callee (f := 23) rfl ?_); refine goesL_ (some 12) rfl rfl Tryz.func23 (by kernel_rfl) rfl #[.slice A0 l0.length c0] rfl (by (try simp only [List.map_toArray, List.map_cons, List.map_nil]); first | done | rfl | (simp only [List.length_drop, List.length_take]; rfl)) ?_; (with_reducible refine (tocsinref8_All.calls k _ _ l0 true _ (tab_below HTb.out (bel HB)) ?side1 ?side2 A2.out).mono ?_); (case side1 => repeat (first | exact HR0.out | (with_reducible refine Kd.C_alloc ?_ _) | (with_reducible refine Kd.C_drewN ?_ _) | (with_reducible refine Kd.C_drew ?_))); (case side2 => exact HC0.out); rintro e w6 ⟨rfl, hb⟩; refine ⟨_, rfl, ?_⟩; have n0_ := Aside0.mk (below_step (bel HB) hb); clear HB; have HB := n0_; clear n0_; (try clear hb); (try clear hb2); (try clear hk); (try clear hi)))
    have n0_ := Aside0.mk (below_drew1 HB.out)
    clear HB
    have HB := n0_
    clear n0_
    refine start_ (n := 8) (S := fun w' => True) (ds := []) #[F,F,F,F,F,F,F,F] (by kernel_rfl) rfl rfl trivial (fun hHeld => ?_); refine with_tabW tocsinref8_Greedy.tab3 tocsinref8_Greedy.bits3 (fun HT_ HW_ => ?_)
    generalize w6.drew = w7 at HB hHeld ⊢
    refine pure_ (i := 0) (N := some 14) (v := ?_) (a' := ?_) #[T,F,F,F,F,F,F,F] rfl rfl (any_of HT_.out (by kernel_rfl)) (fun _ _ _ h => h) (Or.inl ⟨by rfl, ?_⟩) ?_ ?_
    rotate_left
    ·intro w'
     go_simp
     with_reducible rfl
    rotate_left
    ·simp only [Act.put, List.setIfInBounds_toArray, List.set_cons_zero, List.set_cons_succ, i64_w, i32_w]
     rfl
    refine pure_ (i := 1) (N := some 15) (v := ?_) (a' := ?_) #[T,T,F,F,F,F,F,F] rfl rfl (any_of HT_.out (by kernel_rfl)) (fun _ _ _ h => h) (Or.inl ⟨by rfl, ?_⟩) ?_ ?_
    rotate_left
    ·intro w'
     go_simp
     with_reducible rfl
    rotate_left
    ·simp only [Act.put, List.setIfInBounds_toArray, List.set_cons_zero, List.set_cons_succ, i64_w, i32_w]
     rfl
    refine pure_ (i := 3) (N := some 17) (v := ?_) (a' := ?_) #[T,T,F,T,F,F,F,F] rfl rfl (any_of HT_.out (by kernel_rfl)) (fun _ _ _ h => h) (Or.inl ⟨by rfl, ?_⟩) ?_ ?_
    rotate_left
    ·intro w'
     go_simp
     with_reducible rfl
    rotate_left
    ·simp only [Act.put, List.setIfInBounds_toArray, List.set_cons_zero, List.set_cons_succ, i64_w, i32_w]
     rfl
    refine pure_ (i := 4) (N := some 18) (v := ?_) (a' := ?_) #[T,T,F,T,T,F,F,F] rfl rfl (any_of HT_.out (by kernel_rfl)) (fun _ _ _ h => h) (Or.inl ⟨by rfl, ?_⟩) ?_ ?_
    rotate_left
    ·intro w'
     go_simp
     with_reducible rfl
    rotate_left
    ·simp only [Act.put, List.setIfInBounds_toArray, List.set_cons_zero, List.set_cons_succ, i64_w, i32_w]
     rfl
    refine join_ (σ := Value × Value) 1 #[true, true, true, true, true, true, true, false] (fun s_ => [(16, s_.1), (19, s_.2), (4, s_.1)]) (fun s_ w' => (Kd.R Kd.bool 4 w' w.heap.size (fun k_ => some k_ ≠ (s_.2 : Value).ownBlock) s_.1 y245) ∧ (Kd.R Kd.bool 4 w' w.heap.size (fun k_ => some k_ ≠ (s_.1 : Value).ownBlock) s_.2 y248) ∧ (Below w.heap.size w w')) ?_ ?_
    rotate_left
    ·intro hCont
     refine two_ (i := 2) (j := 5) (Ni := some 16) (Nj := some 19) #[T,T,T,T,T,F,F,F] #[T,T,F,T,T,T,F,F] rfl rfl rfl rfl (two_of HT_.out (by kernel_rfl)) (by decide) (by decide) (fun K hK => ?_) (fun K hK => ?_)
     ·skip
      refine Kd.R_make_step Kd.bool _ 4 (by rfl) (N := 16) rfl 53 _ _ rfl (l0.length : Int) rfl rfl Tryz.underlying53 (.bool false) 1 info4 rfl (by decide) (by omega) false (ok := fun _ => True) (okp := fun _ => True) rfl (fun _ hk => hk) trivial (of_decide_eq_true ‹_›) (Nat.le_trans (Nat.mul_le_mul_right _ (of_decide_eq_true ‹_› : (l0.length : Int).toNat ≤ 281474976710656)) (by omega)) (Below.refl _ _) (Nat.le_refl _) ?_
      intro v246 w8 ho9 hb hg_ hnew_
      clear hg_ hnew_
      (first | rw [← Ny245.out] at ho9 | (simp only [Int.reduceToNat] at ho9; rw [← Ny245.out] at ho9))
      have n0_ := Aside0.mk (Kd.R_lower ho9 (below_size (bel HB)))
      have n1_ := Aside0.mk (below_step (bel HB) hb)
      clear HB
      have HO247 := n0_
      have HB := n1_
      clear n0_ n1_
      clear hb ho9
      refine hK.out _ _ trivial (fun hHeld => ?_)
      clear hK K
      refine norm_ (a' := ?_) ?_ ?_
      rotate_left
      ·show Act.put _ (some 16) _ = _
       simp only [Act.put, List.setIfInBounds_toArray, List.set_cons_zero, List.set_cons_succ, i64_w, i32_w]
       rfl
      refine pure_ (i := 6) (N := some 4) (v := ?_) (a' := ?_) #[T,T,T,T,T,F,T,F] rfl rfl (any_of HT_.out (by kernel_rfl)) (fun _ _ _ h => h) (Or.inl ⟨by rfl, ?_⟩) ?_ ?_
      rotate_left
      ·intro w'
       go_simp
       with_reducible rfl
      rotate_left
      ·simp only [Act.put, List.setIfInBounds_toArray, List.set_cons_zero, List.set_cons_succ, i64_w, i32_w]
       rfl
      refine one_ (i := 5) (N := some 19) #[true, true, true, true, true, true, true, false] rfl rfl (one_of HT_.out (by kernel_rfl)) (by decide) (fun K hK => ?_)
      refine Kd.R_make_step Kd.bool _ 4 (by rfl) (N := 19) rfl 53 _ _ rfl (l0.length : Int) rfl rfl Tryz.underlying53 (.bool false) 1 info4 rfl (by decide) (by omega) false (ok := fun _ => True) (okp := fun _ => True) rfl (fun _ hk => hk) trivial (of_decide_eq_true ‹_›) (Nat.le_trans (Nat.mul_le_mul_right _ (of_decide_eq_true ‹_› : (l0.length : Int).toNat ≤ 281474976710656)) (by omega)) (Below.refl _ _) (Nat.le_refl _) ?_
      intro v249 w10 ho11 hb hg_ hnew_
      clear hg_ hnew_
      (first | rw [← Ny248.out] at ho11 | (simp only [Int.reduceToNat] at ho11; rw [← Ny248.out] at ho11))
      have n0_ := Aside0.mk (Kd.R_elder' (by (with_reducible repeat (first | apply Kd.R_alloc | apply Kd.R_drewN | apply Kd.R_drew)); exact HO247.out) (Kd.R_base ho11) hb)
      have n1_ := Aside0.mk (Kd.R_lower (Kd.R_new' ho11 (Kd.R_lt (by (with_reducible repeat (first | apply Kd.R_alloc | apply Kd.R_drewN | apply Kd.R_drew)); exact HO247.out))) (below_size (bel HB)))
      have n2_ := Aside0.mk (below_step (bel HB) hb)
      clear HO247
      clear HB
      have HO247 := n0_
      have HO250 := n1_
      have HB := n2_
      clear n0_ n1_ n2_
      clear hb ho11
      refine hK.out _ _ trivial (fun hHeld => ?_)
      clear hK K
      refine norm_ (a' := ?_) ?_ ?_
      rotate_left
      ·show Act.put _ (some 19) _ = _
       simp only [Act.put, List.setIfInBounds_toArray, List.set_cons_zero, List.set_cons_succ, i64_w, i32_w]
       rfl
      exact norm_ (by simp only [putAll, Act.put, List.setIfInBounds_toArray, List.set_cons_zero, List.set_cons_succ]) (hCont (v246, v249) _ ⟨(by (with_reducible repeat (first | apply Kd.R_alloc | apply Kd.R_drewN | apply Kd.R_drew)); exact Kd.R_mono HO247.out (fun _ hk => hk.2)), (by (with_reducible repeat (first | apply Kd.R_alloc | apply Kd.R_drewN | apply Kd.R_drew)); exact Kd.R_mono HO250.out (fun _ hk => hk.2)), (bel HB)⟩)
     ·skip
      refine Kd.R_make_step Kd.bool _ 4 (by rfl) (N := 19) rfl 53 _ _ rfl (l0.length : Int) rfl rfl Tryz.underlying53 (.bool false) 1 info4 rfl (by decide) (by omega) false (ok := fun _ => True) (okp := fun _ => True) rfl (fun _ hk => hk) trivial (of_decide_eq_true ‹_›) (Nat.le_trans (Nat.mul_le_mul_right _ (of_decide_eq_true ‹_› : (l0.length : Int).toNat ≤ 281474976710656)) (by omega)) (Below.refl _ _) (Nat.le_refl _) ?_
      intro v249 w8 ho9 hb hg_ hnew_
      clear hg_ hnew_
      (first | rw [← Ny248.out] at ho9 | (simp only [Int.reduceToNat] at ho9; rw [← Ny248.out] at ho9))
      have n0_ := Aside0.mk (Kd.R_lower ho9 (below_size (bel HB)))
      have n1_ := Aside0.mk (below_step (bel HB) hb)
      clear HB
      have HO250 := n0_
      have HB := n1_
      clear n0_ n1_
      clear hb ho9
      refine hK.out _ _ trivial (fun hHeld => ?_)
      clear hK K
      refine norm_ (a' := ?_) ?_ ?_
      rotate_left
      ·show Act.put _ (some 19) _ = _
       simp only [Act.put, List.setIfInBounds_toArray, List.set_cons_zero, List.set_cons_succ, i64_w, i32_w]
       rfl
      refine one_ (i := 2) (N := some 16) #[true, true, true, true, true, true, false, false] rfl rfl (one_of HT_.out (by kernel_rfl)) (by decide) (fun K hK => ?_)
      refine Kd.R_make_step Kd.bool _ 4 (by rfl) (N := 16) rfl 53 _ _ rfl (l0.length : Int) rfl rfl Tryz.underlying53 (.bool false) 1 info4 rfl (by decide) (by omega) false (ok := fun _ => True) (okp := fun _ => True) rfl (fun _ hk => hk) trivial (of_decide_eq_true ‹_›) (Nat.le_trans (Nat.mul_le_mul_right _ (of_decide_eq_true ‹_› : (l0.length : Int).toNat ≤ 281474976710656)) (by omega)) (Below.refl _ _) (Nat.le_refl _) ?_
      intro v246 w10 ho11 hb hg_ hnew_
      clear hg_ hnew_
      (first | rw [← Ny245.out] at ho11 | (simp only [Int.reduceToNat] at ho11; rw [← Ny245.out] at ho11))
      have n0_ := Aside0.mk (Kd.R_elder' (by (with_reducible repeat (first | apply Kd.R_alloc | apply Kd.R_drewN | apply Kd.R_drew)); exact HO250.out) (Kd.R_base ho11) hb)
      have n1_ := Aside0.mk (Kd.R_lower (Kd.R_new' ho11 (Kd.R_lt (by (with_reducible repeat (first | apply Kd.R_alloc | apply Kd.R_drewN | apply Kd.R_drew)); exact HO250.out))) (below_size (bel HB)))
      have n2_ := Aside0.mk (below_step (bel HB) hb)
      clear HO250
      clear HB
      have HO250 := n0_
      have HO247 := n1_
      have HB := n2_
      clear n0_ n1_ n2_
      clear hb ho11
      refine hK.out _ _ trivial (fun hHeld => ?_)
      clear hK K
      refine norm_ (a' := ?_) ?_ ?_
      rotate_left
      ·show Act.put _ (some 16) _ = _
       simp only [Act.put, List.setIfInBounds_toArray, List.set_cons_zero, List.set_cons_succ, i64_w, i32_w]
       rfl
      refine pure_ (i := 6) (N := some 4) (v := ?_) (a' := ?_) #[T,T,T,T,T,T,T,F] rfl rfl (any_of HT_.out (by kernel_rfl)) (fun _ _ _ h => h) (Or.inl ⟨by rfl, ?_⟩) ?_ ?_
      rotate_left
      ·intro w'
       go_simp
       with_reducible rfl
      rotate_left
      ·simp only [Act.put, List.setIfInBounds_toArray, List.set_cons_zero, List.set_cons_succ, i64_w, i32_w]
       rfl
      exact norm_ (by simp only [putAll, Act.put, List.setIfInBounds_toArray, List.set_cons_zero, List.set_cons_succ]) (hCont (v246, v249) _ ⟨(by (with_reducible repeat (first | apply Kd.R_alloc | apply Kd.R_drewN | apply Kd.R_drew)); exact Kd.R_mono HO247.out (fun _ hk => hk.2)), (by (with_reducible repeat (first | apply Kd.R_alloc | apply Kd.R_drewN | apply Kd.R_drew)); exact Kd.R_mono HO250.out (fun _ hk => hk.2)), (bel HB)⟩)
    rintro ⟨v246, v249⟩ w12 ⟨h0_, h1_, h2_⟩
    have n0_ : Aside0 (Kd.R Kd.bool 4 w12 w.heap.size (fun k_ => some k_ ≠ (v249 : Value).ownBlock) v246 y245) := ⟨h0_⟩
    have n1_ : Aside0 (Kd.R Kd.bool 4 w12 w.heap.size (fun k_ => some k_ ≠ (v246 : Value).ownBlock) v249 y248) := ⟨h1_⟩
    have n2_ : Aside0 (Below w.heap.size w w12) := ⟨h2_⟩
    clear HB
    clear h0_ h1_ h2_
    have HO247 := n0_
    have HO250 := n1_
    have HB := n2_
    clear n0_ n1_ n2_
    have hHeld := trivial
    refine norm_ (a' := ?_) ?_ ?_
    rotate_left
    ·simp only [putAll, Act.put, List.setIfInBounds_toArray, List.set_cons_zero, List.set_cons_succ]
     rfl
    refine pure_ (i := 7) (N := some 5) (v := ?_) (a' := ?_) #[T,T,T,T,T,T,T,T] rfl rfl (any_of HT_.out (by kernel_rfl)) (fun _ _ _ h => h) (Or.inl ⟨by rfl, ?_⟩) ?_ ?_
    rotate_left
    ·intro w'
     go_simp
     with_reducible rfl
    rotate_left
    ·simp only [Act.put, List.setIfInBounds_toArray, List.set_cons_zero, List.set_cons_succ, i64_w, i32_w]
     rfl
    refine done_ (done_of HT_.out (by kernel_rfl)) ?_
    try go_wp2
    go_loopg [6] k (fun kq v6 w' => ∃ (x4_1 : List Bool) (x5_1 : List Bool) (x6_1 : Int), v6 = .int .i64 x6_1 ∧ Aside0 (tocsinref8_Greedy.l0 kq l0 x4_1 x5_1 x6_1 = some (r1, r2)) ∧ Aside0 (kq ≤ k) ∧ Aside0 (Kd.R Kd.bool 4 w' w.heap.size (fun k_ => some k_ ≠ (v249 : Value).ownBlock) v246 x4_1) ∧ Aside0 (Kd.R Kd.bool 4 w' w.heap.size (fun k_ => some k_ ≠ (v246 : Value).ownBlock) v249 x5_1) ∧ Aside0 (Below w.heap.size w w'))
    case atStart => exact ⟨(y245), (y248), (0), (by first | rfl | simp [*]), H', ⟨Nat.le_refl _⟩, ⟨by (with_reducible repeat (first | apply Kd.R_alloc | apply Kd.R_drewN | apply Kd.R_drew)); exact HO247.out⟩, ⟨by (with_reducible repeat (first | apply Kd.R_alloc | apply Kd.R_drewN | apply Kd.R_drew)); exact HO250.out⟩, ⟨bel HB⟩⟩
    case round =>
     clear H'
     try clear c1
     try clear c2
     try clear p2
     try clear c3
     try clear c4
     try clear c4b0
     try clear c4b1
     try clear c5
     try clear c5b0
     try clear c5b1
     try clear c11
     obtain ⟨x4_1, x5_1, x6_1, rfl, HA, HK1, HO_4, HO_5, HB⟩ := hrel
     cases gk with
     | zero => exact absurd HA.out (by simp [tocsinref8_Greedy.l0])
     | succ k1 =>
      have H := HA.out
      clear HA
      simp only [tocsinref8_Greedy.l0] at H
      by_cases c13 : x6_1 < (l0.length : Int)
      ·rw [if_pos c13] at H
       have c13b0 : decide (x6_1 < (l0.length : Int)) = true := decide_eq_true c13
       clear c13
       have H' := Aside0.mk H
       clear H
       go_wp2
       go_loopg [7, 8] k1 (fun kq v7 v8 w' => ∃ (x7_2 : Int) (x8_2 : Int), v7 = .int .i64 x7_2 ∧ v8 = .int .i64 x8_2 ∧ Aside0 (tocsinref8_Greedy.l1 kq l0 x4_1 x5_1 x6_1 x7_2 x8_2 = some (r1, r2)) ∧ Aside0 (kq ≤ k1) ∧ Aside0 (Kd.R Kd.bool 4 w' w.heap.size (fun k_ => some k_ ≠ (v249 : Value).ownBlock) v246 x4_1) ∧ Aside0 (Kd.R Kd.bool 4 w' w.heap.size (fun k_ => some k_ ≠ (v246 : Value).ownBlock) v249 x5_1) ∧ Aside0 (Below w.heap.size w w'))
       case atStart => exact ⟨((-1)), (0), (by first | rfl | simp [*]), (by first | rfl | simp [*]), H', ⟨Nat.le_refl _⟩, ⟨by (with_reducible repeat (first | apply Kd.R_alloc | apply Kd.R_drewN | apply Kd.R_drew)); exact HO_4.out⟩, ⟨by (with_reducible repeat (first | apply Kd.R_alloc | apply Kd.R_drewN | apply Kd.R_drew)); exact HO_5.out⟩, ⟨bel HB⟩⟩
       case round =>
        clear H'
        try clear c1
        try clear c2
        try clear p2
        try clear c3
        try clear c4
        try clear c4b0
        try clear c4b1
        try clear c5
        try clear c5b0
        try clear c5b1
        try clear c11
        try clear c13
        try clear c13b0
        try clear p2
        obtain ⟨x7_2, x8_2, rfl, rfl, HA, HK2, HO_4, HO_5, HB⟩ := hrel
        cases gk with
        | zero => exact absurd HA.out (by simp [tocsinref8_Greedy.l1])
        | succ k2 =>
         have H := HA.out
         clear HA
         simp only [tocsinref8_Greedy.l1] at H
         by_cases c14 : x8_2 < (l0.length : Int)
         ·rw [if_pos c14] at H
          have c14b0 : decide (x8_2 < (l0.length : Int)) = true := decide_eq_true c14
          clear c14
          by_cases c15 : 0 ≤ x8_2
          ·rw [if_pos c15] at H
           have c15b0 : decide (0 ≤ x8_2) = true := decide_eq_true c15
           clear c15
           by_cases c16 : x8_2 < (x5_1.length : Int)
           ·rw [if_pos c16] at H
            have c16b0 : decide (x8_2 < (x5_1.length : Int)) = true := decide_eq_true c16
            clear c16
            obtain ⟨bq17, hbq17⟩ : ∃ b_ : Bool, b_ = (rdOf false x5_1 x8_2) := ⟨_, rfl⟩
            replace H : (if bq17 = true then (tocsinref8_Greedy.l1 k2 l0 x4_1 x5_1 x6_1 x7_2 (wrap64 (x8_2 + 1))) else (if x7_2 < 0 then (tocsinref8_Greedy.l1 k2 l0 x4_1 x5_1 x6_1 x8_2 (wrap64 (x8_2 + 1))) else (if 0 ≤ x7_2 then (if x7_2 < (l0.length : Int) then (if ((rd_T46 l0 x8_2).f5) > ((rd_T46 l0 x7_2).f5) then (tocsinref8_Greedy.l1 k2 l0 x4_1 x5_1 x6_1 x8_2 (wrap64 (x8_2 + 1))) else (tocsinref8_Greedy.l1 k2 l0 x4_1 x5_1 x6_1 x7_2 (wrap64 (x8_2 + 1)))) else (none)) else (none)))) = some (r1, r2) := by rw [← hbq17] at H; exact H
            have Nbq17 := Aside0.mk hbq17
            clear hbq17
            by_cases c18 : bq17 = true
            ·subst c18
             have H1 : (tocsinref8_Greedy.l1 k2 l0 x4_1 x5_1 x6_1 x7_2 (wrap64 (x8_2 + 1))) = some (r1, r2) := by rw [if_pos rfl] at H; exact H
             clear H
             have H := H1
             clear H1
             have H' := Aside0.mk H
             clear H
             try go_wp2
             obtain ⟨Ao20, co20, eo20⟩ := Kd.R_slice HO_5.out
             (first | subst eo20 | (injection eo20 with f1_ f2_ f3_; have f4_ := f1_.symm; have f5_ := f3_.symm; clear f1_ f2_ f3_; subst f4_; subst f5_))
             have p251 : 0 ≤ (x8_2 : Int) := of_decide_eq_true ‹_›
             have q251 : x8_2 < (x5_1.length : Int) := of_decide_eq_true ‹_›
             obtain ⟨ad251, e251, hx251_0⟩ := Kd.at_bool (Kd.R_reads' HO_5.out).2.2 x8_2 p251 q251
             (try rw [← Nbq17.out] at hx251_0)
             cases e251
             replace p251 := eq_true p251
             replace q251 := eq_true q251
             go_quiet (fail)
             try go_wp2
             go_roundg k2
             case measure => have := HK1.out; have := HK2.out; omega
             case rel => exact ⟨(x7_2), (wrap64 (x8_2 + 1)), (by first | rfl | simp [*]), (by first | rfl | simp [*]), H', ⟨by have := HK1.out; have := HK2.out; omega⟩, ⟨by (with_reducible repeat (first | apply Kd.R_alloc | apply Kd.R_drewN | apply Kd.R_drew)); exact HO_4.out⟩, ⟨by (with_reducible repeat (first | apply Kd.R_alloc | apply Kd.R_drewN | apply Kd.R_drew)); exact HO_5.out⟩, ⟨bel HB⟩⟩
            ·replace c18 := Bool.eq_false_iff.mpr c18
             subst c18
             have H1 : (if x7_2 < 0 then (tocsinref8_Greedy.l1 k2 l0 x4_1 x5_1 x6_1 x8_2 (wrap64 (x8_2 + 1))) else (if 0 ≤ x7_2 then (if x7_2 < (l0.length : Int) then (if ((rd_T46 l0 x8_2).f5) > ((rd_T46 l0 x7_2).f5) then (tocsinref8_Greedy.l1 k2 l0 x4_1 x5_1 x6_1 x8_2 (wrap64 (x8_2 + 1))) else (tocsinref8_Greedy.l1 k2 l0 x4_1 x5_1 x6_1 x7_2 (wrap64 (x8_2 + 1)))) else (none)) else (none))) = some (r1, r2) := by rw [if_neg (show ¬ (false = true) by decide)] at H; exact H
             clear H
             have H := H1
             clear H1
             by_cases c21 : x7_2 < 0
             ·rw [if_pos c21] at H
              have c21b0 : decide (x7_2 < 0) = true := decide_eq_true c21
              clear c21
              have H' := Aside0.mk H
              clear H
              try go_wp2
              obtain ⟨Ao23, co23, eo23⟩ := Kd.R_slice HO_5.out
              (first | subst eo23 | (injection eo23 with f1_ f2_ f3_; have f4_ := f1_.symm; have f5_ := f3_.symm; clear f1_ f2_ f3_; subst f4_; subst f5_))
              have p251 : 0 ≤ (x8_2 : Int) := of_decide_eq_true ‹_›
              have q251 : x8_2 < (x5_1.length : Int) := of_decide_eq_true ‹_›
              obtain ⟨ad251, e251, hx251_0⟩ := Kd.at_bool (Kd.R_reads' HO_5.out).2.2 x8_2 p251 q251
              (try rw [← Nbq17.out] at hx251_0)
              cases e251
              replace p251 := eq_true p251
              replace q251 := eq_true q251
              go_quiet (fail)
              try go_wp2
              go_roundg k2
              case measure => have := HK1.out; have := HK2.out; omega
              case rel => exact ⟨(x8_2), (wrap64 (x8_2 + 1)), (by first | rfl | simp [*]), (by first | rfl | simp [*]), H', ⟨by have := HK1.out; have := HK2.out; omega⟩, ⟨by (with_reducible repeat (first | apply Kd.R_alloc | apply Kd.R_drewN | apply Kd.R_drew)); exact HO_4.out⟩, ⟨by (with_reducible repeat (first | apply Kd.R_alloc | apply Kd.R_drewN | apply Kd.R_drew)); exact HO_5.out⟩, ⟨bel HB⟩⟩
             ·rw [if_neg c21] at H
              have c21b0 : decide (x7_2 < 0) = false := decide_eq_false c21
              clear c21
              by_cases c24 : 0 ≤ x7_2
              ·rw [if_pos c24] at H
               have c24b0 : decide (0 ≤ x7_2) = true := decide_eq_true c24
               clear c24
               by_cases c25 : x7_2 < (l0.length : Int)
               ·rw [if_pos c25] at H
                have c25b0 : decide (x7_2 < (l0.length : Int)) = true := decide_eq_true c25
                clear c25
                by_cases c26 : ((rd_T46 l0 x8_2).f5) > ((rd_T46 l0 x7_2).f5)
                ·rw [if_pos c26] at H
                 have c26b0 : decide (((rd_T46 l0 x7_2).f5) < ((rd_T46 l0 x8_2).f5)) = true := decide_eq_true c26
                 clear c26
                 have H' := Aside0.mk H
                 clear H
                 try go_wp2
                 obtain ⟨Ao28, co28, eo28⟩ := Kd.R_slice HO_5.out
                 (first | subst eo28 | (injection eo28 with f1_ f2_ f3_; have f4_ := f1_.symm; have f5_ := f3_.symm; clear f1_ f2_ f3_; subst f4_; subst f5_))
                 have p251 : 0 ≤ (x8_2 : Int) := of_decide_eq_true ‹_›
                 have q251 : x8_2 < (x5_1.length : Int) := of_decide_eq_true ‹_›
                 obtain ⟨ad251, e251, hx251_0⟩ := Kd.at_bool (Kd.R_reads' HO_5.out).2.2 x8_2 p251 q251
                 (try rw [← Nbq17.out] at hx251_0)
                 cases e251
                 replace p251 := eq_true p251
                 replace q251 := eq_true q251
                 have p252 : 0 ≤ (x8_2 : Int) := of_decide_eq_true ‹_›
                 have q252 : x8_2 < (l0.length : Int) := of_decide_eq_true ‹_›
                 obtain ⟨ad252, e252, hx252_0, hx252_1, hx252_2, hx252_3, hx252_4, hx252_5, hx252_6, hx252_7⟩ := at_T46 HR0.out x8_2 p252 q252
                 (try rw [← Nbq17.out] at hx252_7)
                 cases e252
                 replace hx252_0 := bl HB hx252_0
                 replace hx252_1 := bl HB hx252_1
                 replace hx252_2 := bl HB hx252_2
                 replace hx252_3 := bl HB hx252_3
                 replace hx252_4 := bl HB hx252_4
                 replace hx252_5 := bl HB hx252_5
                 replace hx252_6 := bl HB hx252_6
                 replace hx252_7 := bl HB hx252_7
                 replace p252 := eq_true p252
                 replace q252 := eq_true q252
                 have p253 : 0 ≤ (x7_2 : Int) := of_decide_eq_true ‹_›
                 have q253 : x7_2 < (l0.length : Int) := of_decide_eq_true ‹_›
                 obtain ⟨ad253, e253, hx253_0, hx253_1, hx253_2, hx253_3, hx253_4, hx253_5, hx253_6, hx253_7⟩ := at_T46 HR0.out x7_2 p253 q253
                 (try rw [← Nbq17.out] at hx253_7)
                 obtain rfl : ad252 = ad253 := (by injection e253)
                 replace hx253_0 := bl HB hx253_0
                 replace hx253_1 := bl HB hx253_1
                 replace hx253_2 := bl HB hx253_2
                 replace hx253_3 := bl HB hx253_3
                 replace hx253_4 := bl HB hx253_4
                 replace hx253_5 := bl HB hx253_5
                 replace hx253_6 := bl HB hx253_6
                 replace hx253_7 := bl HB hx253_7
                 replace p253 := eq_true p253
                 replace q253 := eq_true q253
                 go_quiet (fail)
                 try go_wp2
                 go_roundg k2
                 case measure => have := HK1.out; have := HK2.out; omega
                 case rel => exact ⟨(x8_2), (wrap64 (x8_2 + 1)), (by first | rfl | simp [*]), (by first | rfl | simp [*]), H', ⟨by have := HK1.out; have := HK2.out; omega⟩, ⟨by (with_reducible repeat (first | apply Kd.R_alloc | apply Kd.R_drewN | apply Kd.R_drew)); exact HO_4.out⟩, ⟨by (with_reducible repeat (first | apply Kd.R_alloc | apply Kd.R_drewN | apply Kd.R_drew)); exact HO_5.out⟩, ⟨bel HB⟩⟩
                ·rw [if_neg c26] at H
                 have c26b0 : decide (((rd_T46 l0 x7_2).f5) < ((rd_T46 l0 x8_2).f5)) = false := decide_eq_false c26
                 clear c26
                 have H' := Aside0.mk H
                 clear H
                 try go_wp2
                 obtain ⟨Ao30, co30, eo30⟩ := Kd.R_slice HO_5.out
                 (first | subst eo30 | (injection eo30 with f1_ f2_ f3_; have f4_ := f1_.symm; have f5_ := f3_.symm; clear f1_ f2_ f3_; subst f4_; subst f5_))
                 have p251 : 0 ≤ (x8_2 : Int) := of_decide_eq_true ‹_›
                 have q251 : x8_2 < (x5_1.length : Int) := of_decide_eq_true ‹_›
                 obtain ⟨ad251, e251, hx251_0⟩ := Kd.at_bool (Kd.R_reads' HO_5.out).2.2 x8_2 p251 q251
                 (try rw [← Nbq17.out] at hx251_0)
                 cases e251
                 replace p251 := eq_true p251
                 replace q251 := eq_true q251
                 have p252 : 0 ≤ (x8_2 : Int) := of_decide_eq_true ‹_›
                 have q252 : x8_2 < (l0.length : Int) := of_decide_eq_true ‹_›
                 obtain ⟨ad252, e252, hx252_0, hx252_1, hx252_2, hx252_3, hx252_4, hx252_5, hx252_6, hx252_7⟩ := at_T46 HR0.out x8_2 p252 q252
                 (try rw [← Nbq17.out] at hx252_7)
                 cases e252
                 replace hx252_0 := bl HB hx252_0
                 replace hx252_1 := bl HB hx252_1
                 replace hx252_2 := bl HB hx252_2
                 replace hx252_3 := bl HB hx252_3
                 replace hx252_4 := bl HB hx252_4
                 replace hx252_5 := bl HB hx252_5
                 replace hx252_6 := bl HB hx252_6
                 replace hx252_7 := bl HB hx252_7
                 replace p252 := eq_true p252
                 replace q252 := eq_true q252
                 have p253 : 0 ≤ (x7_2 : Int) := of_decide_eq_true ‹_›
                 have q253 : x7_2 < (l0.length : Int) := of_decide_eq_true ‹_›
                 obtain ⟨ad253, e253, hx253_0, hx253_1, hx253_2, hx253_3, hx253_4, hx253_5, hx253_6, hx253_7⟩ := at_T46 HR0.out x7_2 p253 q253
                 (try rw [← Nbq17.out] at hx253_7)
                 obtain rfl : ad252 = ad253 := (by injection e253)
                 replace hx253_0 := bl HB hx253_0
                 replace hx253_1 := bl HB hx253_1
                 replace hx253_2 := bl HB hx253_2
                 replace hx253_3 := bl HB hx253_3
                 replace hx253_4 := bl HB hx253_4
                 replace hx253_5 := bl HB hx253_5
                 replace hx253_6 := bl HB hx253_6
                 replace hx253_7 := bl HB hx253_7
                 replace p253 := eq_true p253
                 replace q253 := eq_true q253
                 go_quiet (fail)
                 try go_wp2
                 go_roundg k2
                 case measure => have := HK1.out; have := HK2.out; omega
                 case rel => exact ⟨(x7_2), (wrap64 (x8_2 + 1)), (by first | rfl | simp [*]), (by first | rfl | simp [*]), H', ⟨by have := HK1.out; have := HK2.out; omega⟩, ⟨by (with_reducible repeat (first | apply Kd.R_alloc | apply Kd.R_drewN | apply Kd.R_drew)); exact HO_4.out⟩, ⟨by (with_reducible repeat (first | apply Kd.R_alloc | apply Kd.R_drewN | apply Kd.R_drew)); exact HO_5.out⟩, ⟨bel HB⟩⟩
               ·rw [if_neg c25] at H
                exact absurd H (by simp)
              ·rw [if_neg c24] at H
               exact absurd H (by simp)
           ·rw [if_neg c16] at H
            exact absurd H (by simp)
          ·rw [if_neg c15] at H
           exact absurd H (by simp)
         ·rw [if_neg c14] at H
          have c14b0 : decide (x8_2 < (l0.length : Int)) = false := decide_eq_false c14
          clear c14
          by_cases c31 : 0 ≤ x7_2
          ·rw [if_pos c31] at H
           have c31b0 : decide (0 ≤ x7_2) = true := decide_eq_true c31
           clear c31
           by_cases c32 : x7_2 < (x5_1.length : Int)
           ·rw [if_pos c32] at H
            have c32b0 : decide (x7_2 < (x5_1.length : Int)) = true := decide_eq_true c32
            clear c32
            obtain ⟨y254, hy254⟩ : ∃ y_ : List Bool, y_ = (x5_1.set (x7_2 : Int).toNat true) := ⟨_, rfl⟩
            replace H : (if x7_2 < (x4_1.length : Int) then ((some (x4_1.set (x7_2 : Int).toNat true : List Bool)).bind fun y255 => ((tocsinref8_can.f k2 l0 y255).bind fun t256 => (if t256 = true then (tocsinref8_Greedy.l0 k2 l0 y255 y254 (wrap64 (x6_1 + 1))) else (tocsinref8_Greedy.l0 k2 l0 (y255.set (x7_2 : Int).toNat false) y254 (wrap64 (x6_1 + 1)))))) else (none)) = some (r1, r2) := by first | (rw [hy254]; with_reducible exact H) | (have H2_ := (Option.bind_some _ _).symm.trans H; rw [hy254]; with_reducible exact H2_) | (have H2_ := (Option.bind_some _ _).symm.trans H; with_reducible exact H2_) | with_reducible exact H | (rw [hy254]; exact H) | exact H
            have Ny254 := Aside0.mk hy254
            clear hy254
            by_cases c34 : x7_2 < (x4_1.length : Int)
            ·rw [if_pos c34] at H
             have c34b0 : decide (x7_2 < (x4_1.length : Int)) = true := decide_eq_true c34
             clear c34
             obtain ⟨y255, hy255⟩ : ∃ y_ : List Bool, y_ = (x4_1.set (x7_2 : Int).toNat true) := ⟨_, rfl⟩
             replace H : ((tocsinref8_can.f k2 l0 y255).bind fun t256 => (if t256 = true then (tocsinref8_Greedy.l0 k2 l0 y255 y254 (wrap64 (x6_1 + 1))) else (tocsinref8_Greedy.l0 k2 l0 (y255.set (x7_2 : Int).toNat false) y254 (wrap64 (x6_1 + 1))))) = some (r1, r2) := by first | (rw [hy255]; with_reducible exact H) | (have H2_ := (Option.bind_some _ _).symm.trans H; rw [hy255]; with_reducible exact H2_) | (have H2_ := (Option.bind_some _ _).symm.trans H; with_reducible exact H2_) | with_reducible exact H | (rw [hy255]; exact H) | exact H
             have Ny255 := Aside0.mk hy255
             clear hy255
             replace H := Option.bind_eq_some_iff.mp H
             obtain ⟨t256, A360, H⟩ := H
             replace H : (if t256 = true then (tocsinref8_Greedy.l0 k2 l0 y255 y254 (wrap64 (x6_1 + 1))) else (tocsinref8_Greedy.l0 k2 l0 (y255.set (x7_2 : Int).toNat false) y254 (wrap64 (x6_1 + 1)))) = some (r1, r2) := H
             have A36 := Aside0.mk A360
             clear A360
             by_cases c37 : t256 = true
             ·subst c37
              have H1 : (tocsinref8_Greedy.l0 k2 l0 y255 y254 (wrap64 (x6_1 + 1))) = some (r1, r2) := by rw [if_pos rfl] at H; exact H
              clear H
              have H := H1
              clear H1
              have H' := Aside0.mk H
              clear H
              have p33 : 0 ≤ (x7_2 : Int) := of_decide_eq_true ‹_›
              have q33 : (x7_2 : Int) < ((x5_1.length : Int) : Int) := of_decide_eq_true ‹_›
              obtain ⟨go33, co33, eo33, gb33, gl33, cl33, HG33⟩ := Kd.R_form HO_5.out (by omega)
              (first | cases eo33 | (injection eo33 with ea_ en_ ec_; (first | subst ea_ | (injection ea_ with ea_; subst ea_)); subst ec_; clear en_))
              have GB33 := Aside0.mk gb33
              have GG33 := Aside0.mk HG33
              clear gb33 gl33 HG33
              obtain ⟨hx33_0, hf33_0⟩ := Kd.R_celln false HO_5.out (x7_2 : Int) p33 q33
              replace p33 := eq_true p33
              replace q33 := eq_true q33
              have HP38 := Kd.R_putg HO_5.out (x7_2 : Int) true
              go_wp2_with (first | ((with_reducible refine gate_store (t := 4) (p := 57) rfl ?_); refine store_event (t := 4) (p := 57) (v := ?vo_w39) (w1 := (wr.setCell ⟨go33, (x7_2 : Int).toNat, none⟩ (.bool true))) ?hg ?ho ?hn ?hr ?_; (case ho => rfl); (case hg => rfl); (case hn => rfl); (case hr => first | (go_simp; done) | (go_simp; rfl)); intro w39 hw; have hg : wr.grownBy w39 (some go33) := (by rw [hw]; exact HP38.2); have hp_ : Kd.R Kd.bool 4 w39 w.heap.size (fun k_ => some k_ ≠ (v246 : Value).ownBlock) (.slice (some ⟨go33, 0, none⟩) x5_1.length co33) y254 := (by rw [hw, Ny254.out]; exact HP38.1); clear HP38; have n0_ := Aside0.mk (Kd.R_after (v := (.slice (some ⟨go33, 0, none⟩) x5_1.length co33)) (v1 := (.slice (some ⟨go33, 0, none⟩) x5_1.length co33)) (ok := (fun _ => True)) (by (with_reducible repeat (first | apply Kd.R_alloc | apply Kd.R_drewN | apply Kd.R_drew)); exact Kd.R_mono HO_4.out (fun _ hk => ⟨trivial, hk⟩)) hg (.inl rfl)); have n1_ := Aside0.mk (hp_); have n2_ := Aside0.mk ((by rw [hw]; exact below_set (HB.out) GB33.out : Below w.heap.size w w39)); clear HO_4; clear HO_5; clear HB; have HO_4 := n0_; have HO_5 := n1_; have HB := n2_; clear n0_ n1_ n2_; clear hg hw hp_; have p35 : 0 ≤ (x7_2 : Int) := of_decide_eq_true ‹_›; have q35 : (x7_2 : Int) < ((x4_1.length : Int) : Int) := of_decide_eq_true ‹_›; obtain ⟨go35, co35, eo35, gb35, gl35, cl35, HG35⟩ := Kd.R_form HO_4.out (by omega); (first | cases eo35 | (injection eo35 with ea_ en_ ec_; (first | subst ea_ | (injection ea_ with ea_; subst ea_)); subst ec_; clear en_)); have GB35 := Aside0.mk gb35; have GG35 := Aside0.mk HG35; clear gb35 gl35 HG35; obtain ⟨hx35_0, hf35_0⟩ := Kd.R_celln false HO_4.out (x7_2 : Int) p35 q35; replace p35 := eq_true p35; replace q35 := eq_true q35; have n_ := Aside0.mk (Kd.R_mono (ok' := (fun k_ => some k_ ≠ (.slice (some ⟨go33, 0, none⟩) x5_1.length co33 : Value).ownBlock)) HO_4.out (fun k_ hk => hk.2)); clear HO_4; have HO_4 := n_; clear n_; obtain ⟨hy40_, hz40_⟩ := Kd.R_celln false HO_4.out (x7_2 : Int) (of_decide_eq_true ‹_›) (of_decide_eq_true ‹_›); have HP40 := Kd.R_putg HO_4.out (x7_2 : Int) true) | ((with_reducible refine gate_store (t := 4) (p := 60) rfl ?_); refine store_event (t := 4) (p := 60) (v := ?vo_w41) (w1 := (w39.setCell ⟨go35, (x7_2 : Int).toNat, none⟩ (.bool true))) ?hg ?ho ?hn ?hr ?_; (case ho => rfl); (case hg => rfl); (case hn => rfl); (case hr => first | (go_simp; done) | (go_simp; rfl)); intro w41 hw; have hg : w39.grownBy w41 (some go35) := (by rw [hw]; exact HP40.2); have hp_ : Kd.R Kd.bool 4 w41 w.heap.size (fun k_ => some k_ ≠ (.slice (some ⟨go33, 0, none⟩) x5_1.length co33 : Value).ownBlock) (.slice (some ⟨go35, 0, none⟩) x4_1.length co35) y255 := (by rw [hw, Ny255.out]; exact HP40.1); clear HP40; have n0_ := Aside0.mk (hp_); have n1_ := Aside0.mk (Kd.R_after (v := (.slice (some ⟨go35, 0, none⟩) x4_1.length co35)) (v1 := (.slice (some ⟨go35, 0, none⟩) x4_1.length co35)) (ok := (fun _ => True)) (by (with_reducible repeat (first | apply Kd.R_alloc | apply Kd.R_drewN | apply Kd.R_drew)); exact Kd.R_mono HO_5.out (fun _ hk => ⟨trivial, hk⟩)) hg (.inl rfl)); have n2_ := Aside0.mk ((by rw [hw]; exact below_set (HB.out) GB35.out : Below w.heap.size w w41)); clear HO_4; clear HO_5; clear HB; have HO_4 := n0_; have HO_5 := n1_; have HB := n2_; clear n0_ n1_ n2_; clear hg hw hp_) | ((with_reducible refine gate_callee (f := 24) rfl ?_); refine goesL_ (some 63) rfl rfl Tryz.func24 (by kernel_rfl) rfl #[.slice A0 l0.length c0, .slice (some ⟨go35, 0, none⟩) y255.length co35] rfl (by (try simp only [List.map_toArray, List.map_cons, List.map_nil]); first | done | (rw [show y255.length = x4_1.length from (Kd.R_reads' HO_4.out).1.symm] <;> rfl) | rfl | (simp only [List.length_drop, List.length_take]; rfl)) ?_; (with_reducible refine (tocsinref8_can.calls k2 _ _ l0 _ _ y255 true _ (tab_below HTb.out (bel HB)) ?side1 ?side2 ?side3 ?side4 A36.out).mono ?_); (case side1 => repeat (first | exact (Kd.C_below HR0.out HB.out) | (with_reducible refine Kd.C_alloc ?_ _) | (with_reducible refine Kd.C_drewN ?_ _) | (with_reducible refine Kd.C_drew ?_))); (case side2 => exact HC0.out); (case side3 => repeat (first | exact (Kd.R_reads' HO_4.out).2.2 | (with_reducible refine Kd.C_alloc ?_ _) | (with_reducible refine Kd.C_drewN ?_ _) | (with_reducible refine Kd.C_drew ?_))); (case side4 => rw [show y255.length = x4_1.length from (Kd.R_reads' HO_4.out).1.symm]; exact (Kd.R_reads' HO_4.out).2.1); rintro e w42 ⟨rfl, hb⟩; refine ⟨_, rfl, ?_⟩; have n0_ := Aside0.mk (Kd.R_below (by (with_reducible repeat (first | apply Kd.R_alloc | apply Kd.R_drewN | apply Kd.R_drew)); exact HO_4.out) hb); have n1_ := Aside0.mk (Kd.R_below (by (with_reducible repeat (first | apply Kd.R_alloc | apply Kd.R_drewN | apply Kd.R_drew)); exact HO_5.out) hb); have n2_ := Aside0.mk (below_step (bel HB) hb); clear HO_4; clear HO_5; clear HB; have HO_4 := n0_; have HO_5 := n1_; have HB := n2_; clear n0_ n1_ n2_; (try clear hb); (try clear hb2); (try clear hk); (try clear hi)))
              go_roundg k2
              case measure => have := HK1.out; have := HK2.out; omega
              case rel => exact ⟨(y255), (y254), (wrap64 (x6_1 + 1)), (by first | rfl | simp [*]), H', ⟨by have := HK1.out; have := HK2.out; omega⟩, ⟨by (with_reducible repeat (first | apply Kd.R_alloc | apply Kd.R_drewN | apply Kd.R_drew)); exact HO_4.out⟩, ⟨by (with_reducible repeat (first | apply Kd.R_alloc | apply Kd.R_drewN | apply Kd.R_drew)); exact Kd.R_mono HO_5.out (fun _ hk => hk.2)⟩, ⟨bel HB⟩⟩
             ·replace c37 := Bool.eq_false_iff.mpr c37
              subst c37
              have H1 : (tocsinref8_Greedy.l0 k2 l0 (y255.set (x7_2 : Int).toNat false) y254 (wrap64 (x6_1 + 1))) = some (r1, r2) := by rw [if_neg (show ¬ (false = true) by decide)] at H; exact H
              clear H
              have H := H1
              clear H1
              obtain ⟨y257, hy257⟩ : ∃ y_ : List Bool, y_ = (y255.set (x7_2 : Int).toNat false) := ⟨_, rfl⟩
              replace H : (tocsinref8_Greedy.l0 k2 l0 y257 y254 (wrap64 (x6_1 + 1))) = some (r1, r2) := by first | (rw [hy257]; with_reducible exact H) | (have H2_ := (Option.bind_some _ _).symm.trans H; rw [hy257]; with_reducible exact H2_) | (have H2_ := (Option.bind_some _ _).symm.trans H; with_reducible exact H2_) | with_reducible exact H | (rw [hy257]; exact H) | exact H
              have Ny257 := Aside0.mk hy257
              clear hy257
              have H' := Aside0.mk H
              clear H
              have p33 : 0 ≤ (x7_2 : Int) := of_decide_eq_true ‹_›
              have q33 : (x7_2 : Int) < ((x5_1.length : Int) : Int) := of_decide_eq_true ‹_›
              obtain ⟨go33, co33, eo33, gb33, gl33, cl33, HG33⟩ := Kd.R_form HO_5.out (by omega)
              (first | cases eo33 | (injection eo33 with ea_ en_ ec_; (first | subst ea_ | (injection ea_ with ea_; subst ea_)); subst ec_; clear en_))
              have GB33 := Aside0.mk gb33
              have GG33 := Aside0.mk HG33
              clear gb33 gl33 HG33
              obtain ⟨hx33_0, hf33_0⟩ := Kd.R_celln false HO_5.out (x7_2 : Int) p33 q33
              replace p33 := eq_true p33
              replace q33 := eq_true q33
              have HP44 := Kd.R_putg HO_5.out (x7_2 : Int) true
              go_wp2_with (first | ((with_reducible refine gate_store (t := 4) (p := 57) rfl ?_); refine store_event (t := 4) (p := 57) (v := ?vo_w45) (w1 := (wr.setCell ⟨go33, (x7_2 : Int).toNat, none⟩ (.bool true))) ?hg ?ho ?hn ?hr ?_; (case ho => rfl); (case hg => rfl); (case hn => rfl); (case hr => first | (go_simp; done) | (go_simp; rfl)); intro w45 hw; have hg : wr.grownBy w45 (some go33) := (by rw [hw]; exact HP44.2); have hp_ : Kd.R Kd.bool 4 w45 w.heap.size (fun k_ => some k_ ≠ (v246 : Value).ownBlock) (.slice (some ⟨go33, 0, none⟩) x5_1.length co33) y254 := (by rw [hw, Ny254.out]; exact HP44.1); clear HP44; have n0_ := Aside0.mk (Kd.R_after (v := (.slice (some ⟨go33, 0, none⟩) x5_1.length co33)) (v1 := (.slice (some ⟨go33, 0, none⟩) x5_1.length co33)) (ok := (fun _ => True)) (by (with_reducible repeat (first | apply Kd.R_alloc | apply Kd.R_drewN | apply Kd.R_drew)); exact Kd.R_mono HO_4.out (fun _ hk => ⟨trivial, hk⟩)) hg (.inl rfl)); have n1_ := Aside0.mk (hp_); have n2_ := Aside0.mk ((by rw [hw]; exact below_set (HB.out) GB33.out : Below w.heap.size w w45)); clear HO_4; clear HO_5; clear HB; have HO_4 := n0_; have HO_5 := n1_; have HB := n2_; clear n0_ n1_ n2_; clear hg hw hp_; have p35 : 0 ≤ (x7_2 : Int) := of_decide_eq_true ‹_›; have q35 : (x7_2 : Int) < ((x4_1.length : Int) : Int) := of_decide_eq_true ‹_›; obtain ⟨go35, co35, eo35, gb35, gl35, cl35, HG35⟩ := Kd.R_form HO_4.out (by omega); (first | cases eo35 | (injection eo35 with ea_ en_ ec_; (first | subst ea_ | (injection ea_ with ea_; subst ea_)); subst ec_; clear en_)); have GB35 := Aside0.mk gb35; have GG35 := Aside0.mk HG35; clear gb35 gl35 HG35; obtain ⟨hx35_0, hf35_0⟩ := Kd.R_celln false HO_4.out (x7_2 : Int) p35 q35; replace p35 := eq_true p35; replace q35 := eq_true q35; have n_ := Aside0.mk (Kd.R_mono (ok' := (fun k_ => some k_ ≠ (.slice (some ⟨go33, 0, none⟩) x5_1.length co33 : Value).ownBlock)) HO_4.out (fun k_ hk => hk.2)); clear HO_4; have HO_4 := n_; clear n_; obtain ⟨hy46_, hz46_⟩ := Kd.R_celln false HO_4.out (x7_2 : Int) (of_decide_eq_true ‹_›) (of_decide_eq_true ‹_›); have HP46 := Kd.R_putg HO_4.out (x7_2 : Int) true) | ((with_reducible refine gate_store (t := 4) (p := 60) rfl ?_); refine store_event (t := 4) (p := 60) (v := ?vo_w47) (w1 := (w45.setCell ⟨go35, (x7_2 : Int).toNat, none⟩ (.bool true))) ?hg ?ho ?hn ?hr ?_; (case ho => rfl); (case hg => rfl); (case hn => rfl); (case hr => first | (go_simp; done) | (go_simp; rfl)); intro w47 hw; have hg : w45.grownBy w47 (some go35) := (by rw [hw]; exact HP46.2); have hp_ : Kd.R Kd.bool 4 w47 w.heap.size (fun k_ => some k_ ≠ (.slice (some ⟨go33, 0, none⟩) x5_1.length co33 : Value).ownBlock) (.slice (some ⟨go35, 0, none⟩) x4_1.length co35) y255 := (by rw [hw, Ny255.out]; exact HP46.1); clear HP46; have n0_ := Aside0.mk (hp_); have n1_ := Aside0.mk (Kd.R_after (v := (.slice (some ⟨go35, 0, none⟩) x4_1.length co35)) (v1 := (.slice (some ⟨go35, 0, none⟩) x4_1.length co35)) (ok := (fun _ => True)) (by (with_reducible repeat (first | apply Kd.R_alloc | apply Kd.R_drewN | apply Kd.R_drew)); exact Kd.R_mono HO_5.out (fun _ hk => ⟨trivial, hk⟩)) hg (.inl rfl)); have n2_ := Aside0.mk ((by rw [hw]; exact below_set (HB.out) GB35.out : Below w.heap.size w w47)); clear HO_4; clear HO_5; clear HB; have HO_4 := n0_; have HO_5 := n1_; have HB := n2_; clear n0_ n1_ n2_; clear hg hw hp_) | ((with_reducible refine gate_callee (f := 24) rfl ?_); refine goesL_ (some 63) rfl rfl Tryz.func24 (by kernel_rfl) rfl #[.slice A0 l0.length c0, .slice (some ⟨go35, 0, none⟩) y255.length co35] rfl (by (try simp only [List.map_toArray, List.map_cons, List.map_nil]); first | done | (rw [show y255.length = x4_1.length from (Kd.R_reads' HO_4.out).1.symm] <;> rfl) | rfl | (simp only [List.length_drop, List.length_take]; rfl)) ?_; (with_reducible refine (tocsinref8_can.calls k2 _ _ l0 _ _ y255 false _ (tab_below HTb.out (bel HB)) ?side1 ?side2 ?side3 ?side4 A36.out).mono ?_); (case side1 => repeat (first | exact (Kd.C_below HR0.out HB.out) | (with_reducible refine Kd.C_alloc ?_ _) | (with_reducible refine Kd.C_drewN ?_ _) | (with_reducible refine Kd.C_drew ?_))); (case side2 => exact HC0.out); (case side3 => repeat (first | exact (Kd.R_reads' HO_4.out).2.2 | (with_reducible refine Kd.C_alloc ?_ _) | (with_reducible refine Kd.C_drewN ?_ _) | (with_reducible refine Kd.C_drew ?_))); (case side4 => rw [show y255.length = x4_1.length from (Kd.R_reads' HO_4.out).1.symm]; exact (Kd.R_reads' HO_4.out).2.1); rintro e w48 ⟨rfl, hb⟩; refine ⟨_, rfl, ?_⟩; have n0_ := Aside0.mk (Kd.R_below (by (with_reducible repeat (first | apply Kd.R_alloc | apply Kd.R_drewN | apply Kd.R_drew)); exact HO_4.out) hb); have n1_ := Aside0.mk (Kd.R_below (by (with_reducible repeat (first | apply Kd.R_alloc | apply Kd.R_drewN | apply Kd.R_drew)); exact HO_5.out) hb); have n2_ := Aside0.mk (below_step (bel HB) hb); clear HO_4; clear HO_5; clear HB; have HO_4 := n0_; have HO_5 := n1_; have HB := n2_; clear n0_ n1_ n2_; (try clear hb); (try clear hb2); (try clear hk); (try clear hi); have p43 : 0 ≤ (x7_2 : Int) := of_decide_eq_true ‹_›; have q43 : (x7_2 : Int) < ((x4_1.length : Int) : Int) := of_decide_eq_true ‹_›; obtain ⟨hx43_0, hf43_0⟩ := Kd.R_celln false HO_4.out (x7_2 : Int) p43 q43; replace p43 := eq_true p43; replace q43 := eq_true q43; obtain ⟨hy49_, hz49_⟩ := Kd.R_celln false HO_4.out (x7_2 : Int) (of_decide_eq_true ‹_›) (of_decide_eq_true ‹_›); have HP49 := Kd.R_putg HO_4.out (x7_2 : Int) false) | ((with_reducible refine gate_store (t := 4) (p := 67) rfl ?_); refine store_event (t := 4) (p := 67) (v := ?vo_w50) (w1 := (w48.setCell ⟨go35, (x7_2 : Int).toNat, none⟩ (.bool false))) ?hg ?ho ?hn ?hr ?_; (case ho => rfl); (case hg => rfl); (case hn => rfl); (case hr => first | (go_simp; done) | (go_simp; rfl)); intro w50 hw; have hg : w48.grownBy w50 (some go35) := (by rw [hw]; exact HP49.2); have hp_ : Kd.R Kd.bool 4 w50 w.heap.size (fun k_ => some k_ ≠ (.slice (some ⟨go33, 0, none⟩) x5_1.length co33 : Value).ownBlock) (.slice (some ⟨go35, 0, none⟩) x4_1.length co35) y257 := (by rw [hw, Ny257.out]; exact HP49.1); clear HP49; have n0_ := Aside0.mk (hp_); have n1_ := Aside0.mk (Kd.R_after (v := (.slice (some ⟨go35, 0, none⟩) x4_1.length co35)) (v1 := (.slice (some ⟨go35, 0, none⟩) x4_1.length co35)) (ok := (fun _ => True)) (by (with_reducible repeat (first | apply Kd.R_alloc | apply Kd.R_drewN | apply Kd.R_drew)); exact HO_5.out) hg (.inl rfl)); have n2_ := Aside0.mk ((by rw [hw]; exact below_set (HB.out) GB35.out : Below w.heap.size w w50)); clear HO_4; clear HO_5; clear HB; have HO_4 := n0_; have HO_5 := n1_; have HB := n2_; clear n0_ n1_ n2_; clear hg hw hp_))
              go_roundg k2
              case measure => have := HK1.out; have := HK2.out; omega
              case rel => exact ⟨(y257), (y254), (wrap64 (x6_1 + 1)), (by first | rfl | simp [*]), H', ⟨by have := HK1.out; have := HK2.out; omega⟩, ⟨by (with_reducible repeat (first | apply Kd.R_alloc | apply Kd.R_drewN | apply Kd.R_drew)); exact HO_4.out⟩, ⟨by (with_reducible repeat (first | apply Kd.R_alloc | apply Kd.R_drewN | apply Kd.R_drew)); exact Kd.R_mono HO_5.out (fun _ hk => hk.2)⟩, ⟨bel HB⟩⟩
            ·rw [if_neg c34] at H
             exact absurd H (by simp)
           ·rw [if_neg c32] at H
            exact absurd H (by simp)
          ·rw [if_neg c31] at H
           exact absurd H (by simp)
      ·rw [if_neg c13] at H
       have c13b0 : decide (x6_1 < (l0.length : Int)) = false := decide_eq_false c13
       clear c13
       by_cases c51 : 0 ≤ (l0.length : Int)
       ·rw [if_pos c51] at H
        have c51b0 := eq_true c51
        have c51b1 : decide (0 ≤ (l0.length : Int)) = true := decide_eq_true c51
        clear c51
        by_cases c52 : ((l0.length : Int) : Int).toNat ≤ 35184372088832
        ·rw [if_pos c52] at H
         have c52b0 := eq_true c52
         have c52b1 : decide (((l0.length : Int) : Int).toNat ≤ 35184372088832) = true := decide_eq_true c52
         clear c52
         obtain ⟨y258, hy258⟩ : ∃ y_ : List Int, y_ = (List.replicate ((l0.length : Int) : Int).toNat 0) := ⟨_, rfl⟩
         replace H : (tocsinref8_Greedy.l2 k1 l0 x4_1 y258 0) = some (r1, r2) := by first | (rw [hy258]; with_reducible exact H) | (have H2_ := (Option.bind_some _ _).symm.trans H; rw [hy258]; with_reducible exact H2_) | (have H2_ := (Option.bind_some _ _).symm.trans H; with_reducible exact H2_) | with_reducible exact H | (rw [hy258]; exact H) | exact H
         have Ny258 := Aside0.mk hy258
         clear hy258
         have H' := Aside0.mk H
         clear H
         go_wp2_with (first | ((with_reducible refine gate_dst (N := 70) rfl ?_); refine Kd.R_make (Kd.int .i64) _ 3 rfl (N := 70) rfl 23 _ _ rfl (l0.length : Int) rfl rfl Tryz.underlying23 (.int .i64 0) 8 info3 rfl (by decide) (by omega) 0 (ok := fun _ => True) (okp := fun _ => True) rfl (fun _ hk => hk) trivial (of_decide_eq_true ‹_›) (Nat.le_trans (Nat.mul_le_mul_right _ (of_decide_eq_true ‹_› : (l0.length : Int).toNat ≤ 35184372088832)) (by omega)) (Below.refl _ _) (Nat.le_refl _) ?_; intro v259 w53 ho54 hb hg_ hnew_; clear hg_ hnew_; (first | rw [← Ny258.out] at ho54 | (simp only [Int.reduceToNat] at ho54; rw [← Ny258.out] at ho54)); have n0_ := Aside0.mk (Kd.R_below (by (with_reducible repeat (first | apply Kd.R_alloc | apply Kd.R_drewN | apply Kd.R_drew)); exact HO_4.out) hb); have n1_ := Aside0.mk (Kd.R_below (by (with_reducible repeat (first | apply Kd.R_alloc | apply Kd.R_drewN | apply Kd.R_drew)); exact HO_5.out) hb); have n2_ := Aside0.mk (Kd.R_lower ho54 (below_size (bel HB))); have n3_ := Aside0.mk (below_step (bel HB) hb); clear HO_4; clear HO_5; clear HB; have HO_4 := n0_; have HO_5 := n1_; have HO260 := n2_; have HB := n3_; clear n0_ n1_ n2_ n3_; clear hb ho54))
         go_loopg [10] k1 (fun kq v10 w' => ∃ (x9_2 : List Int) (x10_2 : Int), v10 = .int .i64 x10_2 ∧ Aside0 (tocsinref8_Greedy.l2 kq l0 x4_1 x9_2 x10_2 = some (r1, r2)) ∧ Aside0 (kq ≤ k1) ∧ Aside0 (Kd.R Kd.bool 4 w' w.heap.size (fun _ => True) v246 x4_1) ∧ Aside0 (Kd.R (Kd.int .i64) 3 w' w.heap.size (fun _ => True) v259 x9_2) ∧ Aside0 (Below w.heap.size w w'))
         case atStart => exact ⟨(y258), (0), (by first | rfl | simp [*]), H', ⟨Nat.le_refl _⟩, ⟨by (with_reducible repeat (first | apply Kd.R_alloc | apply Kd.R_drewN | apply Kd.R_drew)); exact Kd.R_mono HO_4.out (fun _ hk => trivial)⟩, ⟨by (with_reducible repeat (first | apply Kd.R_alloc | apply Kd.R_drewN | apply Kd.R_drew)); exact HO260.out⟩, ⟨bel HB⟩⟩
         case round =>
          clear H'
          try clear c1
          try clear q1
          try clear c2
          try clear p2
          try clear q2
          try clear hx2
          try clear c3
          try clear p3
          try clear q3
          try clear hx3
          try clear hf3
          try clear p4
          try clear q4
          try clear hx4
          try clear hf4
          try clear c5
          try clear p6
          try clear c13
          try clear c13b0
          try clear c14
          try clear c14b0
          try clear c15
          try clear c16
          try clear q17
          try clear c24
          try clear c25
          try clear p25
          try clear q25
          try clear hx25
          try clear c26
          try clear c26b0
          try clear c31
          try clear c31b0
          try clear c32
          try clear c32b0
          try clear p33
          try clear q33
          try clear hx33
          try clear hf33
          try clear c34
          try clear c34b0
          try clear p35
          try clear q35
          try clear hx35
          try clear hf35
          try clear c37
          try clear p43
          try clear q43
          try clear hx43
          try clear hf43
          try clear c51
          try clear c51b0
          try clear c51b1
          try clear c52
          try clear c52b0
          try clear c52b1
          try clear hx251_0
          try clear hx252_0
          try clear hx252_1
          try clear hx252_2
          try clear hx252_3
          try clear hx252_4
          try clear hx252_5
          try clear hx252_6
          try clear hx252_7
          try clear hx253_0
          try clear hx253_1
          try clear hx253_2
          try clear hx253_3
          try clear hx253_4
          try clear hx253_5
          try clear hx253_6
          try clear hx253_7
          try clear hx33_0
          try clear hx35_0
          try clear hx43_0
          try clear p251
          try clear p252
          try clear p253
          try clear p33
          try clear p35
          try clear p43
          try clear q251
          try clear q252
          try clear q253
          try clear q33
          try clear q35
          try clear q43
          obtain ⟨x9_2, x10_2, rfl, HA, HK2, HO_4, HO_9, HB⟩ := hrel
          cases gk with
          | zero => exact absurd HA.out (by simp [tocsinref8_Greedy.l2])
          | succ k2 =>
           have H := HA.out
           clear HA
           simp only [tocsinref8_Greedy.l2] at H
           by_cases c55 : x10_2 < (l0.length : Int)
           ·rw [if_pos c55] at H
            have c55b0 : decide (x10_2 < (l0.length : Int)) = true := decide_eq_true c55
            clear c55
            by_cases c56 : 0 ≤ x10_2
            ·rw [if_pos c56] at H
             have c56b0 : decide (0 ≤ x10_2) = true := decide_eq_true c56
             clear c56
             by_cases c57 : x10_2 < (x4_1.length : Int)
             ·rw [if_pos c57] at H
              have c57b0 : decide (x10_2 < (x4_1.length : Int)) = true := decide_eq_true c57
              clear c57
              obtain ⟨bq58, hbq58⟩ : ∃ b_ : Bool, b_ = (rdOf false x4_1 x10_2) := ⟨_, rfl⟩
              replace H : (if bq58 = true then (if x10_2 < (x9_2.length : Int) then (tocsinref8_Greedy.l2 k2 l0 x4_1 (x9_2.set (x10_2 : Int).toNat ((rd_T46 l0 x10_2).f4)) (wrap64 (x10_2 + 1))) else (none)) else (tocsinref8_Greedy.l2 k2 l0 x4_1 x9_2 (wrap64 (x10_2 + 1)))) = some (r1, r2) := by rw [← hbq58] at H; exact H
              have Nbq58 := Aside0.mk hbq58
              clear hbq58
              by_cases c59 : bq58 = true
              ·subst c59
               have H1 : (if x10_2 < (x9_2.length : Int) then (tocsinref8_Greedy.l2 k2 l0 x4_1 (x9_2.set (x10_2 : Int).toNat ((rd_T46 l0 x10_2).f4)) (wrap64 (x10_2 + 1))) else (none)) = some (r1, r2) := by rw [if_pos rfl] at H; exact H
               clear H
               have H := H1
               clear H1
               by_cases c60 : x10_2 < (x9_2.length : Int)
               ·rw [if_pos c60] at H
                have c60b0 : decide (x10_2 < (x9_2.length : Int)) = true := decide_eq_true c60
                clear c60
                obtain ⟨y263, hy263⟩ : ∃ y_ : List Int, y_ = (x9_2.set (x10_2 : Int).toNat ((rd_T46 l0 x10_2).f4)) := ⟨_, rfl⟩
                replace H : (tocsinref8_Greedy.l2 k2 l0 x4_1 y263 (wrap64 (x10_2 + 1))) = some (r1, r2) := by first | (rw [hy263]; with_reducible exact H) | (have H2_ := (Option.bind_some _ _).symm.trans H; rw [hy263]; with_reducible exact H2_) | (have H2_ := (Option.bind_some _ _).symm.trans H; with_reducible exact H2_) | with_reducible exact H | (rw [hy263]; exact H) | exact H
                have Ny263 := Aside0.mk hy263
                clear hy263
                have H' := Aside0.mk H
                clear H
                obtain ⟨Ao62, co62, eo62⟩ := Kd.R_slice HO_4.out
                subst eo62
                have p261 : 0 ≤ (x10_2 : Int) := of_decide_eq_true ‹_›
                have q261 : x10_2 < (x4_1.length : Int) := of_decide_eq_true ‹_›
                obtain ⟨ad261, e261, hx261_0⟩ := Kd.at_bool (Kd.R_reads' HO_4.out).2.2 x10_2 p261 q261
                (try rw [← Nbq58.out] at hx261_0)
                cases e261
                replace p261 := eq_true p261
                replace q261 := eq_true q261
                have p262 : 0 ≤ (x10_2 : Int) := of_decide_eq_true ‹_›
                have q262 : x10_2 < (l0.length : Int) := of_decide_eq_true ‹_›
                obtain ⟨ad262, e262, hx262_0, hx262_1, hx262_2, hx262_3, hx262_4, hx262_5, hx262_6, hx262_7⟩ := at_T46 HR0.out x10_2 p262 q262
                (try rw [← Nbq58.out] at hx262_7)
                cases e262
                replace hx262_0 := bl HB hx262_0
                replace hx262_1 := bl HB hx262_1
                replace hx262_2 := bl HB hx262_2
                replace hx262_3 := bl HB hx262_3
                replace hx262_4 := bl HB hx262_4
                replace hx262_5 := bl HB hx262_5
                replace hx262_6 := bl HB hx262_6
                replace hx262_7 := bl HB hx262_7
                replace p262 := eq_true p262
                replace q262 := eq_true q262
                have p61 : 0 ≤ (x10_2 : Int) := of_decide_eq_true ‹_›
                have q61 : (x10_2 : Int) < ((x9_2.length : Int) : Int) := of_decide_eq_true ‹_›
                obtain ⟨go61, co61, eo61, gb61, gl61, cl61, HG61⟩ := Kd.R_form HO_9.out (by omega)
                (first | cases eo61 | (injection eo61 with ea_ en_ ec_; (first | subst ea_ | (injection ea_ with ea_; subst ea_)); subst ec_; clear en_))
                have GB61 := Aside0.mk gb61
                have GG61 := Aside0.mk HG61
                clear gb61 gl61 HG61
                obtain ⟨hx61_0, hf61_0⟩ := Kd.R_celln 0 HO_9.out (x10_2 : Int) p61 q61
                replace p61 := eq_true p61
                replace q61 := eq_true q61
                have HP63 := Kd.R_putg HO_9.out (x10_2 : Int) ((rd_T46 l0 x10_2).f4)
                go_wp2_with (first | ((with_reducible refine gate_store (t := 3) (p := 88) rfl ?_); refine store_event (t := 3) (p := 88) (v := ?vo_w64) (w1 := (wr.setCell ⟨go61, (x10_2 : Int).toNat, none⟩ (.int .i64 ((rd_T46 l0 x10_2).f4)))) ?hg ?ho ?hn ?hr ?_; (case ho => rfl); (case hg => rfl); (case hn => rfl); (case hr => first | (go_simp; done) | (go_simp; rfl)); intro w64 hw; have hg : wr.grownBy w64 (some go61) := (by rw [hw]; exact HP63.2); have hp_ : Kd.R (Kd.int .i64) 3 w64 w.heap.size (fun _ => True) (.slice (some ⟨go61, 0, none⟩) x9_2.length co61) y263 := (by rw [hw, Ny263.out]; exact HP63.1); clear HP63; have n0_ := Aside0.mk (Kd.R_over' (v := (.slice (some ⟨go61, 0, none⟩) x9_2.length co61)) (by (with_reducible repeat (first | apply Kd.R_alloc | apply Kd.R_drewN | apply Kd.R_drew)); exact HO_4.out) (Kd.R_typed HO_9.out) (by decide) hg); have n1_ := Aside0.mk (hp_); have n2_ := Aside0.mk ((by rw [hw]; exact below_set (HB.out) GB61.out : Below w.heap.size w w64)); clear HO_4; clear HO_9; clear HB; have HO_4 := n0_; have HO_9 := n1_; have HB := n2_; clear n0_ n1_ n2_; clear hg hw hp_))
                go_roundg k2
                case measure => have := HK1.out; have := HK2.out; omega
                case rel => exact ⟨(y263), (wrap64 (x10_2 + 1)), (by first | rfl | simp [*]), H', ⟨by have := HK1.out; have := HK2.out; omega⟩, ⟨by (with_reducible repeat (first | apply Kd.R_alloc | apply Kd.R_drewN | apply Kd.R_drew)); exact HO_4.out⟩, ⟨by (with_reducible repeat (first | apply Kd.R_alloc | apply Kd.R_drewN | apply Kd.R_drew)); exact HO_9.out⟩, ⟨bel HB⟩⟩
               ·rw [if_neg c60] at H
                exact absurd H (by simp)
              ·replace c59 := Bool.eq_false_iff.mpr c59
               subst c59
               have H1 : (tocsinref8_Greedy.l2 k2 l0 x4_1 x9_2 (wrap64 (x10_2 + 1))) = some (r1, r2) := by rw [if_neg (show ¬ (false = true) by decide)] at H; exact H
               clear H
               have H := H1
               clear H1
               have H' := Aside0.mk H
               clear H
               obtain ⟨Ao65, co65, eo65⟩ := Kd.R_slice HO_4.out
               subst eo65
               have p261 : 0 ≤ (x10_2 : Int) := of_decide_eq_true ‹_›
               have q261 : x10_2 < (x4_1.length : Int) := of_decide_eq_true ‹_›
               obtain ⟨ad261, e261, hx261_0⟩ := Kd.at_bool (Kd.R_reads' HO_4.out).2.2 x10_2 p261 q261
               (try rw [← Nbq58.out] at hx261_0)
               cases e261
               replace p261 := eq_true p261
               replace q261 := eq_true q261
               go_wp2
               go_roundg k2
               case measure => have := HK1.out; have := HK2.out; omega
               case rel => exact ⟨(x9_2), (wrap64 (x10_2 + 1)), (by first | rfl | simp [*]), H', ⟨by have := HK1.out; have := HK2.out; omega⟩, ⟨by (with_reducible repeat (first | apply Kd.R_alloc | apply Kd.R_drewN | apply Kd.R_drew)); exact HO_4.out⟩, ⟨by (with_reducible repeat (first | apply Kd.R_alloc | apply Kd.R_drewN | apply Kd.R_drew)); exact HO_9.out⟩, ⟨bel HB⟩⟩
             ·rw [if_neg c57] at H
              exact absurd H (by simp)
            ·rw [if_neg c56] at H
             exact absurd H (by simp)
           ·rw [if_neg c55] at H
            have c55b0 : decide (x10_2 < (l0.length : Int)) = false := decide_eq_false c55
            clear c55
            replace H := Option.bind_eq_some_iff.mp H
            obtain ⟨t264, A660, H⟩ := H
            replace H : ((tocsinref8_run.f k2 l0 x9_2 t264).bind fun t265 => (some (t265, 0))) = some (r1, r2) := H
            have A66 := Aside0.mk A660
            clear A660
            replace H := Option.bind_eq_some_iff.mp H
            obtain ⟨t265, A670, H⟩ := H
            replace H : (some (t265, 0)) = some (r1, r2) := H
            have A67 := Aside0.mk A670
            clear A670
            simp only [Option.some.injEq, Prod.mk.injEq] at H
            obtain ⟨rfl, rfl⟩ := H
            go_wp2_with (first | ((with_reducible refine gate_callee (f := 30) rfl ?_); refine goesL_ (some 92) rfl rfl Tryz.func30 (by kernel_rfl) rfl #[.slice A0 l0.length c0] rfl (by (try simp only [List.map_toArray, List.map_cons, List.map_nil]); first | done | rfl | (simp only [List.length_drop, List.length_take]; rfl)) ?_; (with_reducible refine (tocsinref8_End.calls k2 _ _ l0 t264 _ (tab_below HTb.out (bel HB)) ?side1 ?side2 A66.out).mono ?_); (case side1 => repeat (first | exact (Kd.C_below HR0.out HB.out) | (with_reducible refine Kd.C_alloc ?_ _) | (with_reducible refine Kd.C_drewN ?_ _) | (with_reducible refine Kd.C_drew ?_))); (case side2 => exact HC0.out); rintro e w68 ⟨rfl, hb⟩; refine ⟨_, rfl, ?_⟩; have n0_ := Aside0.mk (Kd.R_below (by (with_reducible repeat (first | apply Kd.R_alloc | apply Kd.R_drewN | apply Kd.R_drew)); exact HO_4.out) hb); have n1_ := Aside0.mk (Kd.R_below (by (with_reducible repeat (first | apply Kd.R_alloc | apply Kd.R_drewN | apply Kd.R_drew)); exact HO_9.out) hb); have n2_ := Aside0.mk (below_step (bel HB) hb); clear HO_4; clear HO_9; clear HB; have HO_4 := n0_; have HO_9 := n1_; have HB := n2_; clear n0_ n1_ n2_; (try clear hb); (try clear hb2); (try clear hk); (try clear hi); obtain ⟨Ao69, co69, eo69⟩ := Kd.R_slice HO_9.out; subst eo69) | ((with_reducible refine gate_callee (f := 29) rfl ?_); refine goesL_ (some 93) rfl rfl Tryz.func29 (by kernel_rfl) rfl #[.slice A0 l0.length c0, .slice Ao69 x9_2.length co69, .int .i64 t264] rfl (by (try simp only [List.map_toArray, List.map_cons, List.map_nil]); first | done | rfl | (simp only [List.length_drop, List.length_take]; rfl)) ?_; (with_reducible refine (tocsinref8_run.calls k2 _ _ l0 _ _ x9_2 t264 t265 _ ?side1 ?side2 ?side3 ?side4 A67.out).mono ?_); (case side1 => repeat (first | exact (Kd.C_below HR0.out HB.out) | (with_reducible refine Kd.C_alloc ?_ _) | (with_reducible refine Kd.C_drewN ?_ _) | (with_reducible refine Kd.C_drew ?_))); (case side2 => exact HC0.out); (case side3 => repeat (first | exact (Kd.R_reads' HO_9.out).2.2 | (with_reducible refine Kd.C_alloc ?_ _) | (with_reducible refine Kd.C_drewN ?_ _) | (with_reducible refine Kd.C_drew ?_))); (case side4 => exact (Kd.R_reads' HO_9.out).2.1); rintro e w70 ⟨v266, rfl, ho0, hb⟩; refine ⟨_, rfl, ?_⟩; have n0_ := Aside0.mk (Kd.R_below (by (with_reducible repeat (first | apply Kd.R_alloc | apply Kd.R_drewN | apply Kd.R_drew)); exact HO_4.out) hb); have n1_ := Aside0.mk (Kd.R_elder' (by (with_reducible repeat (first | apply Kd.R_alloc | apply Kd.R_drewN | apply Kd.R_drew)); exact HO_9.out) (Kd.R_base ho0) hb); have n2_ := Aside0.mk (Kd.R_lower (Kd.R_new' ho0 (Kd.R_lt (by (with_reducible repeat (first | apply Kd.R_alloc | apply Kd.R_drewN | apply Kd.R_drew)); exact HO_9.out))) (below_size (bel HB))); have n3_ := Aside0.mk (below_step (bel HB) hb); clear HO_4; clear HO_9; clear HB; have HO_4 := n0_; have HO_9 := n1_; have HO267 := n2_; have HB := n3_; clear n0_ n1_ n2_ n3_; (try clear hb); (try clear hb2); (try clear hk); (try clear hi); (try clear ho0)))
            go_ret2
            exact ⟨_, by first | rfl | (simp [*] <;> rfl), by (with_reducible repeat (first | apply Kd.R_alloc | apply Kd.R_drewN | apply Kd.R_drew)); exact Kd.R_mono HO267.out (fun _ hk => trivial), bel HB⟩
        ·rw [if_neg c52] at H
         exact absurd H (by simp)
       ·rw [if_neg c51] at H
        exact absurd H (by simp)
   ·rw [if_neg c5] at H
    exact absurd H (by simp)
  ·rw [if_neg c4] at H
   exact absurd H (by simp)
 ·replace c3 := Bool.eq_false_iff.mpr c3
  subst c3
  have H1 : (some (([] : List Int), 1)) = some (r1, r2) := by rw [if_neg (show ¬ (false = true) by decide)] at H; exact H
  clear H
  have H := H1
  clear H1
  simp only [Option.some.injEq, Prod.mk.injEq] at H
  obtain ⟨rfl, rfl⟩ := H
  go_enter Tryz.func11, Tryz.ntmps11
  go_wp2_with (first | ((with_reducible refine gate_callee (f := 23) rfl ?_); refine goesL_ (some 12) rfl rfl Tryz.func23 (by kernel_rfl) rfl #[.slice A0 l0.length c0] rfl (by (try simp only [List.map_toArray, List.map_cons, List.map_nil]); first | done | rfl | (simp only [List.length_drop, List.length_take]; rfl)) ?_; (with_reducible refine (tocsinref8_All.calls k _ _ l0 false _ (tab_below HTb.out (bel HB)) ?side1 ?side2 A2.out).mono ?_); (case side1 => repeat (first | exact HR0.out | (with_reducible refine Kd.C_alloc ?_ _) | (with_reducible refine Kd.C_drewN ?_ _) | (with_reducible refine Kd.C_drew ?_))); (case side2 => exact HC0.out); rintro e w71 ⟨rfl, hb⟩; refine ⟨_, rfl, ?_⟩; have n0_ := Aside0.mk (below_step (bel HB) hb); clear HB; have HB := n0_; clear n0_; (try clear hb); (try clear hb2); (try clear hk); (try clear hi)))
  go_ret2
  exact ⟨_, by first | rfl | (simp [*] <;> rfl), by first | exact Kd.R_nil _ _ _ _ _ | exact Kd.N_nil _ _ _ _ _ | exact Kd.V_nil _ _ _ _ _ | exact Kd.Q_nil _ _ _ _ _ | exact Kd.S_nil _ _ _ _ _, bel HB⟩
end Go.Proofs.YtobkfbkhcghaeaaGreatDoor.PRv
namespace Go.Proofs.YtobkfbkhcghaeaaGreatDoor.PRv
open Go.RowKit Go.Proofs.YtobkfbkhcghaeaaGreatDoorW.PrintWords Go.Proofs.YtobkfbkhcghaeaaGreatDoorW.PrintLast Go.Proofs.YtobkfbkhcghaeaaGreatDoorW.PrintMore
attribute [local go_sem] max2_int min2_int max_two min_two max_three min_three max_four min_four   -- for this text's walks alone
set_option linter.unusedVariables false
set_option linter.unusedSimpArgs false

/-! ### tocsinref8_Work: function 31 -/
def tocsinref8_Work.f (a0_0 : ByteArray) (a0_1 : Int) (a0_2 : Int) (a0_3 : Int) (a0_4 : Int) (a0_5 : Int) (a0_6 : Int) (a0_7 : Bool) : Option (Int) := (tocsinref8_Good.f a0_0 a0_1 a0_2 a0_3 a0_4 a0_5 a0_6 a0_7).bind fun t269 => (if t269 = true then (if a0_4 > a0_3 then (some (wrap64 (a0_3 + a0_6))) else (some a0_4)) else (some 0))
set_option maxHeartbeats 8000000 in
set_option maxRecDepth 100000 in
theorem tocsinref8_Work.calls (a0_0 : ByteArray) (a0_1 : Int) (a0_2 : Int) (a0_3 : Int) (a0_4 : Int) (a0_5 : Int) (a0_6 : Int) (a0_7 : Bool) (r : Int) (w : World) (hTb : Tab w) (h : tocsinref8_Work.f a0_0 a0_1 a0_2 a0_3 a0_4 a0_5 a0_6 a0_7 = some r) :
  Calls Tryz.prog 31 #[.agg #[.string a0_0, .int .i64 a0_1, .int .i64 a0_2, .int .i64 a0_3, .int .i64 a0_4, .int .i64 a0_5, .int .i64 a0_6, .bool a0_7]] w fun e w' => e = .returned (.int .i64 r) ∧ Below w.heap.size w w' := by
 have HTb := Aside0.mk hTb
 clear hTb
 have hu46 := Tryz.underlying46
 have HB := Aside0.mk (Below.refl w.heap.size w)
 have H : ((tocsinref8_Good.f a0_0 a0_1 a0_2 a0_3 a0_4 a0_5 a0_6 a0_7).bind fun t269 => (if t269 = true then (if a0_4 > a0_3 then (some (wrap64 (a0_3 + a0_6))) else (some a0_4)) else (some 0))) = some r := h
 clear h
 replace H := Option.bind_eq_some_iff.mp H
 obtain ⟨t269, A20, H⟩ := H
 replace H : (if t269 = true then (if a0_4 > a0_3 then (some (wrap64 (a0_3 + a0_6))) else (some a0_4)) else (some 0)) = some r := H
 have A2 := Aside0.mk A20
 clear A20
 by_cases c3 : t269 = true
 ·subst c3
  have H1 : (if a0_4 > a0_3 then (some (wrap64 (a0_3 + a0_6))) else (some a0_4)) = some r := by rw [if_pos rfl] at H; exact H
  clear H
  have H := H1
  clear H1
  by_cases c4 : a0_4 > a0_3
  ·rw [if_pos c4] at H
   have c4b0 : decide (a0_3 < a0_4) = true := decide_eq_true c4
   clear c4
   obtain rfl := Option.some.inj H
   go_enter Tryz.func31, Tryz.ntmps31
   go_wp2_with (first | ((with_reducible refine gate_dst (N := 1) rfl ?_); refine box_event ?hg (N := 1) ?hd (cs := #[.string a0_0, .int .i64 a0_1, .int .i64 a0_2, .int .i64 a0_3, .int .i64 a0_4, .int .i64 a0_5, .int .i64 a0_6, .bool a0_7]) (t := 46) ?hr ?_; (case hd => rfl); (case hg => rfl); (case hr => first | (go_simp; done) | (go_simp; rfl)); intro gb268 hg w5 hbox hb; have n0_ := Aside0.mk (below_step (bel HB) hb); have n1_ := Aside0.mk (hbox); have n2_ := Aside0.mk (by rw [hg]; exact (below_size (bel HB)) : w.heap.size ≤ gb268); have n3_ := n2_; clear HB; have HB := n0_; have BK268 := n1_; have GW268 := n2_; have GE268 := n3_; clear n0_ n1_ n2_ n3_; clear hb hbox hg; obtain ⟨hcz6_0, hcz6_1, hcz6_2, hcz6_3, hcz6_4, hcz6_5, hcz6_6, hcz6_7⟩ := cel8 BK268; obtain ⟨hfz6_0, hfz6_1, hfz6_2, hfz6_3, hfz6_4, hfz6_5, hfz6_6, hfz6_7⟩ := frz8 BK268) | ((with_reducible refine gate_callee (f := 42) rfl ?_); refine goesL_ (some 4) rfl rfl Tryz.func42 (by kernel_rfl) rfl #[.agg #[.string a0_0, .int .i64 a0_1, .int .i64 a0_2, .int .i64 a0_3, .int .i64 a0_4, .int .i64 a0_5, .int .i64 a0_6, .bool a0_7]] rfl (by (try simp only [List.map_toArray, List.map_cons, List.map_nil]); first | done | rfl | (simp only [List.length_drop, List.length_take]; rfl)) ?_; (with_reducible refine (tocsinref8_Good.calls a0_0 a0_1 a0_2 a0_3 a0_4 a0_5 a0_6 a0_7 true _ (tab_below HTb.out (bel HB)) A2.out).mono ?_); rintro e w7 ⟨rfl, hb⟩; refine ⟨_, rfl, ?_⟩; have n0_ := Aside0.mk (blk_below (g := gb268) (o := .cells #[.string a0_0, .int .i64 a0_1, .int .i64 a0_2, .int .i64 a0_3, .int .i64 a0_4, .int .i64 a0_5, .int .i64 a0_6, .bool a0_7] 46 (0, 0)) (by (with_reducible repeat (first | refine blk_drewN ?_ _ | refine blk_drew ?_ | refine blk_alloc ?_ _)); exact BK268.out) hb); have n1_ := Aside0.mk (below_step (by repeat (first | (with_reducible first | exact HB.out | apply below_alloc | apply pw_below_drewN | apply below_drew1 | refine below_set ?_ GE268.out) | exact HB.out)) hb); clear BK268; clear HB; have BK268 := n0_; have HB := n1_; clear n0_ n1_; (try clear hb); (try clear hb2); (try clear hk); (try clear hi); obtain ⟨hcz8_0, hcz8_1, hcz8_2, hcz8_3, hcz8_4, hcz8_5, hcz8_6, hcz8_7⟩ := cel8 BK268; obtain ⟨hfz8_0, hfz8_1, hfz8_2, hfz8_3, hfz8_4, hfz8_5, hfz8_6, hfz8_7⟩ := frz8 BK268))
   go_ret
   exact ⟨by first | rfl | (simp [*] <;> rfl), by repeat (first | (with_reducible first | exact HB.out | apply below_alloc | apply pw_below_drewN | apply below_drew1 | refine below_set ?_ GE268.out) | exact HB.out)⟩
  ·rw [if_neg c4] at H
   have c4b0 : decide (a0_3 < a0_4) = false := decide_eq_false c4
   clear c4
   obtain rfl := Option.some.inj H
   go_enter Tryz.func31, Tryz.ntmps31
   go_wp2_with (first | ((with_reducible refine gate_dst (N := 1) rfl ?_); refine box_event ?hg (N := 1) ?hd (cs := #[.string a0_0, .int .i64 a0_1, .int .i64 a0_2, .int .i64 a0_3, .int .i64 a0_4, .int .i64 a0_5, .int .i64 a0_6, .bool a0_7]) (t := 46) ?hr ?_; (case hd => rfl); (case hg => rfl); (case hr => first | (go_simp; done) | (go_simp; rfl)); intro gb268 hg w9 hbox hb; have n0_ := Aside0.mk (below_step (bel HB) hb); have n1_ := Aside0.mk (hbox); have n2_ := Aside0.mk (by rw [hg]; exact (below_size (bel HB)) : w.heap.size ≤ gb268); have n3_ := n2_; clear HB; have HB := n0_; have BK268 := n1_; have GW268 := n2_; have GE268 := n3_; clear n0_ n1_ n2_ n3_; clear hb hbox hg; obtain ⟨hcz10_0, hcz10_1, hcz10_2, hcz10_3, hcz10_4, hcz10_5, hcz10_6, hcz10_7⟩ := cel8 BK268; obtain ⟨hfz10_0, hfz10_1, hfz10_2, hfz10_3, hfz10_4, hfz10_5, hfz10_6, hfz10_7⟩ := frz8 BK268) | ((with_reducible refine gate_callee (f := 42) rfl ?_); refine goesL_ (some 4) rfl rfl Tryz.func42 (by kernel_rfl) rfl #[.agg #[.string a0_0, .int .i64 a0_1, .int .i64 a0_2, .int .i64 a0_3, .int .i64 a0_4, .int .i64 a0_5, .int .i64 a0_6, .bool a0_7]] rfl (by (try simp only [List.map_toArray, List.map_cons, List.map_nil]); first | done | rfl | (simp only [List.length_drop, List.length_take]; rfl)) ?_; (with_reducible refine (tocsinref8_Good.calls a0_0 a0_1 a0_2 a0_3 a0_4 a0_5 a0_6 a0_7 true _ (tab_below HTb.out (bel HB)) A2.out).mono ?_); rintro e w11 ⟨rfl, hb⟩; refine ⟨_, rfl, ?_⟩; have n0_ := Aside0.mk (blk_below (g := gb268) (o := .cells #[.string a0_0, .int .i64 a0_1, .int .i64 a0_2, .int .i64 a0_3, .int .i64 a0_4, .int .i64 a0_5, .int .i64 a0_6, .bool a0_7] 46 (0, 0)) (by (with_reducible repeat (first | refine blk_drewN ?_ _ | refine blk_drew ?_ | refine blk_alloc ?_ _)); exact BK268.out) hb); have n1_ := Aside0.mk (below_step (by repeat (first | (with_reducible first | exact HB.out | apply below_alloc | apply pw_below_drewN | apply below_drew1 | refine below_set ?_ GE268.out) | exact HB.out)) hb); clear BK268; clear HB; have BK268 := n0_; have HB := n1_; clear n0_ n1_; (try clear hb); (try clear hb2); (try clear hk); (try clear hi); obtain ⟨hcz12_0, hcz12_1, hcz12_2, hcz12_3, hcz12_4, hcz12_5, hcz12_6, hcz12_7⟩ := cel8 BK268; obtain ⟨hfz12_0, hfz12_1, hfz12_2, hfz12_3, hfz12_4, hfz12_5, hfz12_6, hfz12_7⟩ := frz8 BK268))
   go_ret
   exact ⟨by first | rfl | (simp [*] <;> rfl), by repeat (first | (with_reducible first | exact HB.out | apply below_alloc | apply pw_below_drewN | apply below_drew1 | refine below_set ?_ GE268.out) | exact HB.out)⟩
 ·replace c3 := Bool.eq_false_iff.mpr c3
  subst c3
  have H1 : (some 0) = some r := by rw [if_neg (show ¬ (false = true) by decide)] at H; exact H
  clear H
  have H := H1
  clear H1
  obtain rfl := Option.some.inj H
  go_enter Tryz.func31, Tryz.ntmps31
  go_wp2_with (first | ((with_reducible refine gate_dst (N := 1) rfl ?_); refine box_event ?hg (N := 1) ?hd (cs := #[.string a0_0, .int .i64 a0_1, .int .i64 a0_2, .int .i64 a0_3, .int .i64 a0_4, .int .i64 a0_5, .int .i64 a0_6, .bool a0_7]) (t := 46) ?hr ?_; (case hd => rfl); (case hg => rfl); (case hr => first | (go_simp; done) | (go_simp; rfl)); intro gb268 hg w13 hbox hb; have n0_ := Aside0.mk (below_step (bel HB) hb); have n1_ := Aside0.mk (hbox); have n2_ := Aside0.mk (by rw [hg]; exact (below_size (bel HB)) : w.heap.size ≤ gb268); have n3_ := n2_; clear HB; have HB := n0_; have BK268 := n1_; have GW268 := n2_; have GE268 := n3_; clear n0_ n1_ n2_ n3_; clear hb hbox hg; obtain ⟨hcz14_0, hcz14_1, hcz14_2, hcz14_3, hcz14_4, hcz14_5, hcz14_6, hcz14_7⟩ := cel8 BK268; obtain ⟨hfz14_0, hfz14_1, hfz14_2, hfz14_3, hfz14_4, hfz14_5, hfz14_6, hfz14_7⟩ := frz8 BK268) | ((with_reducible refine gate_callee (f := 42) rfl ?_); refine goesL_ (some 4) rfl rfl Tryz.func42 (by kernel_rfl) rfl #[.agg #[.string a0_0, .int .i64 a0_1, .int .i64 a0_2, .int .i64 a0_3, .int .i64 a0_4, .int .i64 a0_5, .int .i64 a0_6, .bool a0_7]] rfl (by (try simp only [List.map_toArray, List.map_cons, List.map_nil]); first | done | rfl | (simp only [List.length_drop, List.length_take]; rfl)) ?_; (with_reducible refine (tocsinref8_Good.calls a0_0 a0_1 a0_2 a0_3 a0_4 a0_5 a0_6 a0_7 false _ (tab_below HTb.out (bel HB)) A2.out).mono ?_); rintro e w15 ⟨rfl, hb⟩; refine ⟨_, rfl, ?_⟩; have n0_ := Aside0.mk (blk_below (g := gb268) (o := .cells #[.string a0_0, .int .i64 a0_1, .int .i64 a0_2, .int .i64 a0_3, .int .i64 a0_4, .int .i64 a0_5, .int .i64 a0_6, .bool a0_7] 46 (0, 0)) (by (with_reducible repeat (first | refine blk_drewN ?_ _ | refine blk_drew ?_ | refine blk_alloc ?_ _)); exact BK268.out) hb); have n1_ := Aside0.mk (below_step (by repeat (first | (with_reducible first | exact HB.out | apply below_alloc | apply pw_below_drewN | apply below_drew1 | refine below_set ?_ GE268.out) | exact HB.out)) hb); clear BK268; clear HB; have BK268 := n0_; have HB := n1_; clear n0_ n1_; (try clear hb); (try clear hb2); (try clear hk); (try clear hi)))
  go_ret
  exact ⟨by first | rfl | (simp [*] <;> rfl), by repeat (first | (with_reducible first | exact HB.out | apply below_alloc | apply pw_below_drewN | apply below_drew1 | refine below_set ?_ GE268.out) | exact HB.out)⟩

/-! ### tocsinref8_GoodTrace: function 12 -/
mutual
def tocsinref8_GoodTrace.j0 : Nat → List (S46) → List Int → Bool → Option (Bool)
 | 0, _, _, _ => none
 | k + 1, x0, x1, x15 => if x15 = true then (some false) else (if 0 ≤ (x0.length : Int) then (if ((x0.length : Int) : Int).toNat ≤ 35184372088832 then (tocsinref8_GoodTrace.l0 k x0 x1 (List.replicate ((x0.length : Int) : Int).toNat 0) 0) else (none)) else (none))
def tocsinref8_GoodTrace.l0 : Nat → List (S46) → List Int → List Int → Int → Option (Bool)
 | 0, _, _, _, _ => none
 | k + 1, x0, x1, x5, x6 => if x6 < (x1.length : Int) then (if 0 ≤ x6 then (if (rd x1 x6) = (-1) then (tocsinref8_GoodTrace.l0 k x0 x1 x5 (wrap64 (x6 + 1))) else (if (rd x1 x6) < 0 then (tocsinref8_GoodTrace.j2 k x0 x1 x5 x6 (rd x1 x6) true) else (if (rd x1 x6) ≥ (x0.length : Int) then (tocsinref8_GoodTrace.j2 k x0 x1 x5 x6 (rd x1 x6) true) else (if 0 ≤ (rd x1 x6) then (if (rd x1 x6) < (x0.length : Int) then (if x6 < ((rd_T46 x0 (rd x1 x6)).f1) then (tocsinref8_GoodTrace.j2 k x0 x1 x5 x6 (rd x1 x6) true) else (tocsinref8_GoodTrace.j2 k x0 x1 x5 x6 (rd x1 x6) (decide (x6 ≥ ((rd_T46 x0 (rd x1 x6)).f2))))) else (none)) else (none))))) else (none)) else (some true)
def tocsinref8_GoodTrace.j2 : Nat → List (S46) → List Int → List Int → Int → Int → Bool → Option (Bool)
 | 0, _, _, _, _, _, _ => none
 | k + 1, x0, x1, x5, x6, x7, x56 => if x56 = true then (some false) else (if 0 ≤ x7 then (if x7 < (x5.length : Int) then ((some (x5.set (x7 : Int).toNat (wrap64 ((rd x5 x7) + 1)) : List Int)).bind fun y278 => (if x7 < (x0.length : Int) then ((tocsinref8_Work.f ((rd_T46 x0 x7).f0) ((rd_T46 x0 x7).f1) ((rd_T46 x0 x7).f2) ((rd_T46 x0 x7).f3) ((rd_T46 x0 x7).f4) ((rd_T46 x0 x7).f5) ((rd_T46 x0 x7).f6) ((rd_T46 x0 x7).f7)).bind fun t281 => (if (rd y278 x7) > t281 then (some false) else (tocsinref8_GoodTrace.l0 k x0 x1 y278 (wrap64 (x6 + 1))))) else (none))) else (none)) else (none))
end
def tocsinref8_GoodTrace.f (k : Nat) (l0 : List (S46)) (l1 : List Int) : Option (Bool) := (tocsinref8_All.f k l0).bind fun t270 => (if t270 = true then (tocsinref8_GoodTrace.j0 k l0 l1 (decide ((l1.length : Int) > 10000))) else (tocsinref8_GoodTrace.j0 k l0 l1 true))
def tocsinref8_GoodTrace.T12 : Bool × List (List Nat × List Nat) := (true, [([], []), ([], []), ([0, 1], [0, 1]), ([2], [2]), ([], []), ([], []), ([4, 5], [4, 5]), ([6], [6]), ([7], [7]), ([3, 8], [3, 8])])
def tocsinref8_GoodTrace.B12 : List Nat := [0, 0, 3, 7, 0, 0, 48, 112, 240, 511]
theorem tocsinref8_GoodTrace.tab12 : rtab .any (opsOf Tryz.f12 12) = tocsinref8_GoodTrace.T12 := by kernel_rfl
theorem tocsinref8_GoodTrace.bits12 : waitsOk tocsinref8_GoodTrace.T12.2 tocsinref8_GoodTrace.B12 = true := by kernel_rfl
set_option maxHeartbeats 8000000 in
set_option maxRecDepth 100000 in
theorem tocsinref8_GoodTrace.calls (k : Nat) (A0 : Option Addr) (c0 : Nat) (l0 : List (S46)) (A1 : Option Addr) (c1 : Nat) (l1 : List Int) (r : Bool) (w : World) (hTb : Tab w) (hr0 : Kd.C k46 w A0 l0.length l0) (hc0 : l0.length ≤ c0) (hr1 : Kd.C (Kd.int .i64) w A1 l1.length l1) (hc1 : l1.length ≤ c1) (h : tocsinref8_GoodTrace.f k l0 l1 = some r) :
  Calls Tryz.prog 12 #[.slice A0 l0.length c0, .slice A1 l1.length c1] w fun e w' => e = .returned (.bool r) ∧ Below w.heap.size w w' := by
 have HTb := Aside0.mk hTb
 clear hTb
 have hu46 := Tryz.underlying46
 have HR0 := Aside0.mk hr0
 have HC0 := Aside0.mk hc0
 clear hr0 hc0
 have HR1 := Aside0.mk hr1
 have HC1 := Aside0.mk hc1
 clear hr1 hc1
 have HB := Aside0.mk (Below.refl w.heap.size w)
 have H : ((tocsinref8_All.f k l0).bind fun t270 => (if t270 = true then (tocsinref8_GoodTrace.j0 k l0 l1 (decide ((l1.length : Int) > 10000))) else (tocsinref8_GoodTrace.j0 k l0 l1 true))) = some r := h
 clear h
 have HC3 := Aside0.mk H
 clear H
 go_enter Tryz.func12, Tryz.ntmps12
 go_upto_region 1 with (fail)
 go_cut [15] (fun v15 wc => ∃ (kq : Nat) (x15_2 : Bool), v15 = .bool x15_2 ∧ Aside0 (tocsinref8_GoodTrace.j0 kq l0 l1 x15_2 = some r) ∧ Aside0 (kq ≤ k) ∧ Aside0 (Below w.heap.size w wc))
 case first =>
  have H := HC3.out
  clear HC3
  replace H := Option.bind_eq_some_iff.mp H
  obtain ⟨t270, A40, H⟩ := H
  replace H : (if t270 = true then (tocsinref8_GoodTrace.j0 k l0 l1 (decide ((l1.length : Int) > 10000))) else (tocsinref8_GoodTrace.j0 k l0 l1 true)) = some r := H
  have A4 := Aside0.mk A40
  clear A40
  by_cases c5 : t270 = true
  ·subst c5
   have H1 : (tocsinref8_GoodTrace.j0 k l0 l1 (decide ((l1.length : Int) > 10000))) = some r := by rw [if_pos rfl] at H; exact H
   clear H
   have H := H1
   clear H1
   have H' := Aside0.mk H
   clear H
   go_wp2_with (first | ((with_reducible refine gate_callee (f := 23) rfl ?_); refine goesL_ (some 9) rfl rfl Tryz.func23 (by kernel_rfl) rfl #[.slice A0 l0.length c0] rfl (by (try simp only [List.map_toArray, List.map_cons, List.map_nil]); first | done | rfl | (simp only [List.length_drop, List.length_take]; rfl)) ?_; (with_reducible refine (tocsinref8_All.calls k _ _ l0 true _ (tab_below HTb.out (bel HB)) ?side1 ?side2 A4.out).mono ?_); (case side1 => repeat (first | exact (Kd.C_below HR0.out HB.out) | (with_reducible refine Kd.C_alloc ?_ _) | (with_reducible refine Kd.C_drewN ?_ _) | (with_reducible refine Kd.C_drew ?_))); (case side2 => exact HC0.out); rintro e w6 ⟨rfl, hb⟩; refine ⟨_, rfl, ?_⟩; have n0_ := Aside0.mk (below_step (bel HB) hb); clear HB; have HB := n0_; clear n0_; (try clear hb); (try clear hb2); (try clear hk); (try clear hi)))
   go_meet
   case rel => exact ⟨_, (decide ((l1.length : Int) > 10000)), (by first | rfl | simp [*]), H', ⟨by first | omega | exact Nat.le_refl _⟩, ⟨bel HB⟩⟩
  ·replace c5 := Bool.eq_false_iff.mpr c5
   subst c5
   have H1 : (tocsinref8_GoodTrace.j0 k l0 l1 true) = some r := by rw [if_neg (show ¬ (false = true) by decide)] at H; exact H
   clear H
   have H := H1
   clear H1
   have H' := Aside0.mk H
   clear H
   go_wp2_with (first | ((with_reducible refine gate_callee (f := 23) rfl ?_); refine goesL_ (some 9) rfl rfl Tryz.func23 (by kernel_rfl) rfl #[.slice A0 l0.length c0] rfl (by (try simp only [List.map_toArray, List.map_cons, List.map_nil]); first | done | rfl | (simp only [List.length_drop, List.length_take]; rfl)) ?_; (with_reducible refine (tocsinref8_All.calls k _ _ l0 false _ (tab_below HTb.out (bel HB)) ?side1 ?side2 A4.out).mono ?_); (case side1 => repeat (first | exact (Kd.C_below HR0.out HB.out) | (with_reducible refine Kd.C_alloc ?_ _) | (with_reducible refine Kd.C_drewN ?_ _) | (with_reducible refine Kd.C_drew ?_))); (case side2 => exact HC0.out); rintro e w7 ⟨rfl, hb⟩; refine ⟨_, rfl, ?_⟩; have n0_ := Aside0.mk (below_step (bel HB) hb); clear HB; have HB := n0_; clear n0_; (try clear hb); (try clear hb2); (try clear hk); (try clear hi)))
   go_meet
   case rel => exact ⟨_, (true), (by first | rfl | simp [*]), H', ⟨by first | omega | exact Nat.le_refl _⟩, ⟨bel HB⟩⟩
 case rest =>
  clear HC3
  try clear c1
  try clear c2
  try clear p2
  try clear c5
  obtain ⟨kq, x15_2, rfl, HA, HJ2, HB⟩ := hcut
  cases kq with
  | zero => exact absurd HA.out (by simp [tocsinref8_GoodTrace.j0])
  | succ kj2 =>
   have H := HA.out
   clear HA
   simp only [tocsinref8_GoodTrace.j0] at H
   by_cases c8 : x15_2 = true
   ·subst c8
    have H1 : (some false) = some r := by rw [if_pos rfl] at H; exact H
    clear H
    have H := H1
    clear H1
    obtain rfl := Option.some.inj H
    go_wp2
    go_ret
    exact ⟨by first | rfl | (simp [*] <;> rfl), bel HB⟩
   ·replace c8 := Bool.eq_false_iff.mpr c8
    subst c8
    have H1 : (if 0 ≤ (l0.length : Int) then (if ((l0.length : Int) : Int).toNat ≤ 35184372088832 then (tocsinref8_GoodTrace.l0 kj2 l0 l1 (List.replicate ((l0.length : Int) : Int).toNat 0) 0) else (none)) else (none)) = some r := by rw [if_neg (show ¬ (false = true) by decide)] at H; exact H
    clear H
    have H := H1
    clear H1
    by_cases c9 : 0 ≤ (l0.length : Int)
    ·rw [if_pos c9] at H
     have c9b0 := eq_true c9
     have c9b1 : decide (0 ≤ (l0.length : Int)) = true := decide_eq_true c9
     clear c9
     by_cases c10 : ((l0.length : Int) : Int).toNat ≤ 35184372088832
     ·rw [if_pos c10] at H
      have c10b0 := eq_true c10
      have c10b1 : decide (((l0.length : Int) : Int).toNat ≤ 35184372088832) = true := decide_eq_true c10
      clear c10
      obtain ⟨y271, hy271⟩ : ∃ y_ : List Int, y_ = (List.replicate ((l0.length : Int) : Int).toNat 0) := ⟨_, rfl⟩
      replace H : (tocsinref8_GoodTrace.l0 kj2 l0 l1 y271 0) = some r := by first | (rw [hy271]; with_reducible exact H) | (have H2_ := (Option.bind_some _ _).symm.trans H; rw [hy271]; with_reducible exact H2_) | (have H2_ := (Option.bind_some _ _).symm.trans H; with_reducible exact H2_) | with_reducible exact H | (rw [hy271]; exact H) | exact H
      have Ny271 := Aside0.mk hy271
      clear hy271
      have H' := Aside0.mk H
      clear H
      go_wp2_with (first | ((with_reducible refine gate_dst (N := 18) rfl ?_); (try (refine gate_guard (by rfl) ?_; dsimp only)); refine Kd.R_make (Kd.int .i64) _ 3 rfl (N := 18) rfl 23 _ _ rfl (l0.length : Int) rfl rfl Tryz.underlying23 (.int .i64 0) 8 info3 rfl (by decide) (by omega) 0 (ok := fun _ => True) (okp := fun _ => True) rfl (fun _ hk => hk) trivial (of_decide_eq_true ‹_›) (Nat.le_trans (Nat.mul_le_mul_right _ (of_decide_eq_true ‹_› : (l0.length : Int).toNat ≤ 35184372088832)) (by omega)) (Below.refl _ _) (Nat.le_refl _) ?_; intro v272 w11 ho12 hb hg_ hnew_; clear hg_ hnew_; (first | rw [← Ny271.out] at ho12 | (simp only [Int.reduceToNat] at ho12; rw [← Ny271.out] at ho12)); have n0_ := Aside0.mk (Kd.R_lower ho12 (below_size (bel HB))); have n1_ := Aside0.mk (below_step (bel HB) hb); clear HB; have HO273 := n0_; have HB := n1_; clear n0_ n1_; clear hb ho12))
      go_loopg [6] kj2 (fun kq v6 w' => ∃ (x5_2 : List Int) (x6_2 : Int), v6 = .int .i64 x6_2 ∧ Aside0 (tocsinref8_GoodTrace.l0 kq l0 l1 x5_2 x6_2 = some r) ∧ Aside0 (kq ≤ kj2) ∧ Aside0 (Kd.R (Kd.int .i64) 3 w' w.heap.size (fun _ => True) v272 x5_2) ∧ Aside0 (Below w.heap.size w w'))
      case atStart => exact ⟨(y271), (0), (by first | rfl | simp [*]), H', ⟨Nat.le_refl _⟩, ⟨by (with_reducible repeat (first | apply Kd.R_alloc | apply Kd.R_drewN | apply Kd.R_drew)); exact HO273.out⟩, ⟨bel HB⟩⟩
      case round =>
       clear H'
       try clear c1
       try clear c2
       try clear p2
       try clear c5
       try clear c8
       try clear c9
       try clear c9b0
       try clear c9b1
       try clear c10
       try clear c10b0
       try clear c10b1
       try clear c12
       try clear p2
       obtain ⟨x5_2, x6_2, rfl, HA, HK2, HO_5, HB⟩ := hrel
       cases gk with
       | zero => exact absurd HA.out (by simp [tocsinref8_GoodTrace.l0])
       | succ k2 =>
        have H := HA.out
        clear HA
        simp only [tocsinref8_GoodTrace.l0] at H
        by_cases c13 : x6_2 < (l1.length : Int)
        ·rw [if_pos c13] at H
         have c13b0 : decide (x6_2 < (l1.length : Int)) = true := decide_eq_true c13
         clear c13
         by_cases c14 : 0 ≤ x6_2
         ·rw [if_pos c14] at H
          have c14b0 : decide (0 ≤ x6_2) = true := decide_eq_true c14
          clear c14
          by_cases c15 : (rd l1 x6_2) = (-1)
          ·rw [if_pos c15] at H
           have c15b0 : ((rd l1 x6_2) == (-1)) = true := beq_iff_eq.mpr c15
           have c15b1 : ((rd l1 x6_2) != (-1)) = false := bne_eq_false_iff_eq.mpr c15
           clear c15
           have H' := Aside0.mk H
           clear H
           have p274 : 0 ≤ (x6_2 : Int) := of_decide_eq_true ‹_›
           have q274 : x6_2 < (l1.length : Int) := of_decide_eq_true ‹_›
           obtain ⟨ad274, e274, hx274_0⟩ := Kd.at_int HR1.out x6_2 p274 q274
           cases e274
           replace hx274_0 := bl HB hx274_0
           replace p274 := eq_true p274
           replace q274 := eq_true q274
           go_wp2
           go_roundg k2
           case measure => have := HJ2.out; have := HK2.out; omega
           case rel => exact ⟨(x5_2), (wrap64 (x6_2 + 1)), (by first | rfl | simp [*]), H', ⟨by have := HJ2.out; have := HK2.out; omega⟩, ⟨by (with_reducible repeat (first | apply Kd.R_alloc | apply Kd.R_drewN | apply Kd.R_drew)); exact HO_5.out⟩, ⟨bel HB⟩⟩
          ·rw [if_neg c15] at H
           have c15b0 : ((rd l1 x6_2) == (-1)) = false := beq_eq_false_iff_ne.mpr c15
           have c15b1 : ((rd l1 x6_2) != (-1)) = true := bne_iff_ne.mpr c15
           have HC16 := Aside0.mk H
           clear H
           have p274 : 0 ≤ (x6_2 : Int) := of_decide_eq_true ‹_›
           have q274 : x6_2 < (l1.length : Int) := of_decide_eq_true ‹_›
           obtain ⟨ad274, e274, hx274_0⟩ := Kd.at_int HR1.out x6_2 p274 q274
           cases e274
           replace hx274_0 := bl HB hx274_0
           replace p274 := eq_true p274
           replace q274 := eq_true q274
           go_upto_region 9 with (fail)
           go_cut [56] (fun v56 wc => ∃ (kq : Nat) (x56_15 : Bool), v56 = .bool x56_15 ∧ Aside0 (tocsinref8_GoodTrace.j2 kq l0 l1 x5_2 x6_2 (rd l1 x6_2) x56_15 = some r) ∧ Aside0 (kq ≤ k2) ∧ Aside0 (Kd.R (Kd.int .i64) 3 wc w.heap.size (fun _ => True) v272 x5_2) ∧ Aside0 (Below w.heap.size w wc))
           case first =>
            have H := HC16.out
            clear HC16
            by_cases c17 : (rd l1 x6_2) < 0
            ·rw [if_pos c17] at H
             have c17b0 : decide ((rd l1 x6_2) < 0) = true := decide_eq_true c17
             clear c17
             (first | rw [c17b0] | (simp only [i64_w, i32_w]; rw [c17b0]) | skip)
             have H' := Aside0.mk H
             clear H
             go_wp2
             go_meet
             case rel => exact ⟨_, (true), (by first | rfl | simp [*]), H', ⟨by have := HJ2.out; have := HK2.out; first | omega | exact Nat.le_refl _⟩, ⟨by (with_reducible repeat (first | apply Kd.R_alloc | apply Kd.R_drewN | apply Kd.R_drew)); exact HO_5.out⟩, ⟨bel HB⟩⟩
            ·rw [if_neg c17] at H
             have c17b0 : decide ((rd l1 x6_2) < 0) = false := decide_eq_false c17
             clear c17
             (first | rw [c17b0] | (simp only [i64_w, i32_w]; rw [c17b0]) | skip)
             by_cases c18 : (rd l1 x6_2) ≥ (l0.length : Int)
             ·rw [if_pos c18] at H
              have c18b0 : decide ((l0.length : Int) ≤ (rd l1 x6_2)) = true := decide_eq_true c18
              clear c18
              have H' := Aside0.mk H
              clear H
              go_wp2
              go_meet
              case rel => exact ⟨_, (true), (by first | rfl | simp [*]), H', ⟨by have := HJ2.out; have := HK2.out; first | omega | exact Nat.le_refl _⟩, ⟨by (with_reducible repeat (first | apply Kd.R_alloc | apply Kd.R_drewN | apply Kd.R_drew)); exact HO_5.out⟩, ⟨bel HB⟩⟩
             ·rw [if_neg c18] at H
              have c18b0 : decide ((l0.length : Int) ≤ (rd l1 x6_2)) = false := decide_eq_false c18
              clear c18
              by_cases c19 : 0 ≤ (rd l1 x6_2)
              ·rw [if_pos c19] at H
               have c19b0 : decide (0 ≤ (rd l1 x6_2)) = true := decide_eq_true c19
               clear c19
               by_cases c20 : (rd l1 x6_2) < (l0.length : Int)
               ·rw [if_pos c20] at H
                have c20b0 : decide ((rd l1 x6_2) < (l0.length : Int)) = true := decide_eq_true c20
                clear c20
                by_cases c21 : x6_2 < ((rd_T46 l0 (rd l1 x6_2)).f1)
                ·rw [if_pos c21] at H
                 have c21b0 : decide (x6_2 < ((rd_T46 l0 (rd l1 x6_2)).f1)) = true := decide_eq_true c21
                 clear c21
                 have H' := Aside0.mk H
                 clear H
                 have p275 : 0 ≤ ((rd l1 x6_2) : Int) := of_decide_eq_true ‹_›
                 have q275 : (rd l1 x6_2) < (l0.length : Int) := of_decide_eq_true ‹_›
                 obtain ⟨ad275, e275, hx275_0, hx275_1, hx275_2, hx275_3, hx275_4, hx275_5, hx275_6, hx275_7⟩ := at_T46 HR0.out (rd l1 x6_2) p275 q275
                 cases e275
                 replace hx275_0 := bl HB hx275_0
                 replace hx275_1 := bl HB hx275_1
                 replace hx275_2 := bl HB hx275_2
                 replace hx275_3 := bl HB hx275_3
                 replace hx275_4 := bl HB hx275_4
                 replace hx275_5 := bl HB hx275_5
                 replace hx275_6 := bl HB hx275_6
                 replace hx275_7 := bl HB hx275_7
                 replace p275 := eq_true p275
                 replace q275 := eq_true q275
                 go_wp2
                 go_meet
                 case rel => exact ⟨_, (true), (by first | rfl | simp [*]), H', ⟨by have := HJ2.out; have := HK2.out; first | omega | exact Nat.le_refl _⟩, ⟨by (with_reducible repeat (first | apply Kd.R_alloc | apply Kd.R_drewN | apply Kd.R_drew)); exact HO_5.out⟩, ⟨bel HB⟩⟩
                ·rw [if_neg c21] at H
                 have c21b0 : decide (x6_2 < ((rd_T46 l0 (rd l1 x6_2)).f1)) = false := decide_eq_false c21
                 clear c21
                 have H' := Aside0.mk H
                 clear H
                 have p275 : 0 ≤ ((rd l1 x6_2) : Int) := of_decide_eq_true ‹_›
                 have q275 : (rd l1 x6_2) < (l0.length : Int) := of_decide_eq_true ‹_›
                 obtain ⟨ad275, e275, hx275_0, hx275_1, hx275_2, hx275_3, hx275_4, hx275_5, hx275_6, hx275_7⟩ := at_T46 HR0.out (rd l1 x6_2) p275 q275
                 cases e275
                 replace hx275_0 := bl HB hx275_0
                 replace hx275_1 := bl HB hx275_1
                 replace hx275_2 := bl HB hx275_2
                 replace hx275_3 := bl HB hx275_3
                 replace hx275_4 := bl HB hx275_4
                 replace hx275_5 := bl HB hx275_5
                 replace hx275_6 := bl HB hx275_6
                 replace hx275_7 := bl HB hx275_7
                 replace p275 := eq_true p275
                 replace q275 := eq_true q275
                 have p276 : 0 ≤ ((rd l1 x6_2) : Int) := of_decide_eq_true ‹_›
                 have q276 : (rd l1 x6_2) < (l0.length : Int) := of_decide_eq_true ‹_›
                 obtain ⟨ad276, e276, hx276_0, hx276_1, hx276_2, hx276_3, hx276_4, hx276_5, hx276_6, hx276_7⟩ := at_T46 HR0.out (rd l1 x6_2) p276 q276
                 obtain rfl : ad275 = ad276 := (by injection e276)
                 replace hx276_0 := bl HB hx276_0
                 replace hx276_1 := bl HB hx276_1
                 replace hx276_2 := bl HB hx276_2
                 replace hx276_3 := bl HB hx276_3
                 replace hx276_4 := bl HB hx276_4
                 replace hx276_5 := bl HB hx276_5
                 replace hx276_6 := bl HB hx276_6
                 replace hx276_7 := bl HB hx276_7
                 replace p276 := eq_true p276
                 replace q276 := eq_true q276
                 go_wp2
                 go_meet
                 case rel => exact ⟨_, (decide (x6_2 ≥ ((rd_T46 l0 (rd l1 x6_2)).f2))), (by first | rfl | simp [*]), H', ⟨by have := HJ2.out; have := HK2.out; first | omega | exact Nat.le_refl _⟩, ⟨by (with_reducible repeat (first | apply Kd.R_alloc | apply Kd.R_drewN | apply Kd.R_drew)); exact HO_5.out⟩, ⟨bel HB⟩⟩
               ·rw [if_neg c20] at H
                exact absurd H (by simp)
              ·rw [if_neg c19] at H
               exact absurd H (by simp)
           case rest =>
            clear HC16
            try clear c1
            try clear c2
            try clear p2
            try clear q2
            try clear hx2
            try clear c5
            try clear p6
            try clear c8
            try clear c9
            try clear c9b0
            try clear c9b1
            try clear c10
            try clear c10b0
            try clear c10b1
            try clear c12
            try clear c13
            try clear c13b0
            try clear c14
            try clear c14b0
            try clear c15
            try clear c15b0
            try clear c15b1
            try clear c17
            try clear c17b0
            try clear c18
            try clear c18b0
            try clear c19
            try clear c19b0
            try clear c20
            try clear c20b0
            try clear c21
            try clear c21b0
            try clear hx274_0
            try clear hx275_0
            try clear hx275_1
            try clear hx275_2
            try clear hx275_3
            try clear hx275_4
            try clear hx275_5
            try clear hx275_6
            try clear hx275_7
            try clear hx276_0
            try clear hx276_1
            try clear hx276_2
            try clear hx276_3
            try clear hx276_4
            try clear hx276_5
            try clear hx276_6
            try clear hx276_7
            try clear p2
            try clear p274
            try clear p275
            try clear p276
            try clear q274
            try clear q275
            try clear q276
            obtain ⟨kq, x56_15, rfl, HA, HJ15, HO_5, HB⟩ := hcut
            cases kq with
            | zero => exact absurd HA.out (by simp [tocsinref8_GoodTrace.j2])
            | succ kj15 =>
             have H := HA.out
             clear HA
             simp only [tocsinref8_GoodTrace.j2] at H
             by_cases c22 : x56_15 = true
             ·subst c22
              have H1 : (some false) = some r := by rw [if_pos rfl] at H; exact H
              clear H
              have H := H1
              clear H1
              obtain rfl := Option.some.inj H
              go_wp2
              go_ret
              exact ⟨by first | rfl | (simp [*] <;> rfl), bel HB⟩
             ·replace c22 := Bool.eq_false_iff.mpr c22
              subst c22
              have H1 : (if 0 ≤ (rd l1 x6_2) then (if (rd l1 x6_2) < (x5_2.length : Int) then ((some (x5_2.set ((rd l1 x6_2) : Int).toNat (wrap64 ((rd x5_2 (rd l1 x6_2)) + 1)) : List Int)).bind fun y278 => (if (rd l1 x6_2) < (l0.length : Int) then ((tocsinref8_Work.f ((rd_T46 l0 (rd l1 x6_2)).f0) ((rd_T46 l0 (rd l1 x6_2)).f1) ((rd_T46 l0 (rd l1 x6_2)).f2) ((rd_T46 l0 (rd l1 x6_2)).f3) ((rd_T46 l0 (rd l1 x6_2)).f4) ((rd_T46 l0 (rd l1 x6_2)).f5) ((rd_T46 l0 (rd l1 x6_2)).f6) ((rd_T46 l0 (rd l1 x6_2)).f7)).bind fun t281 => (if (rd y278 (rd l1 x6_2)) > t281 then (some false) else (tocsinref8_GoodTrace.l0 kj15 l0 l1 y278 (wrap64 (x6_2 + 1))))) else (none))) else (none)) else (none)) = some r := by rw [if_neg (show ¬ (false = true) by decide)] at H; exact H
              clear H
              have H := H1
              clear H1
              by_cases c23 : 0 ≤ (rd l1 x6_2)
              ·rw [if_pos c23] at H
               have c23b0 : decide (0 ≤ (rd l1 x6_2)) = true := decide_eq_true c23
               clear c23
               by_cases c24 : (rd l1 x6_2) < (x5_2.length : Int)
               ·rw [if_pos c24] at H
                have c24b0 : decide ((rd l1 x6_2) < (x5_2.length : Int)) = true := decide_eq_true c24
                clear c24
                obtain ⟨y278, hy278⟩ : ∃ y_ : List Int, y_ = (x5_2.set ((rd l1 x6_2) : Int).toNat (wrap64 ((rd x5_2 (rd l1 x6_2)) + 1))) := ⟨_, rfl⟩
                replace H : (if (rd l1 x6_2) < (l0.length : Int) then ((tocsinref8_Work.f ((rd_T46 l0 (rd l1 x6_2)).f0) ((rd_T46 l0 (rd l1 x6_2)).f1) ((rd_T46 l0 (rd l1 x6_2)).f2) ((rd_T46 l0 (rd l1 x6_2)).f3) ((rd_T46 l0 (rd l1 x6_2)).f4) ((rd_T46 l0 (rd l1 x6_2)).f5) ((rd_T46 l0 (rd l1 x6_2)).f6) ((rd_T46 l0 (rd l1 x6_2)).f7)).bind fun t281 => (if (rd y278 (rd l1 x6_2)) > t281 then (some false) else (tocsinref8_GoodTrace.l0 kj15 l0 l1 y278 (wrap64 (x6_2 + 1))))) else (none)) = some r := by first | (rw [hy278]; with_reducible exact H) | (have H2_ := (Option.bind_some _ _).symm.trans H; rw [hy278]; with_reducible exact H2_) | (have H2_ := (Option.bind_some _ _).symm.trans H; with_reducible exact H2_) | with_reducible exact H | (rw [hy278]; exact H) | exact H
                have Ny278 := Aside0.mk hy278
                clear hy278
                by_cases c26 : (rd l1 x6_2) < (l0.length : Int)
                ·rw [if_pos c26] at H
                 have c26b0 : decide ((rd l1 x6_2) < (l0.length : Int)) = true := decide_eq_true c26
                 clear c26
                 replace H := Option.bind_eq_some_iff.mp H
                 obtain ⟨t281, A270, H⟩ := H
                 replace H : (if (rd y278 (rd l1 x6_2)) > t281 then (some false) else (tocsinref8_GoodTrace.l0 kj15 l0 l1 y278 (wrap64 (x6_2 + 1)))) = some r := H
                 have A27 := Aside0.mk A270
                 clear A270
                 have HH_ := Aside0.mk H
                 clear H
                 obtain ⟨Ao34, co34, eo34⟩ := Kd.R_slice HO_5.out
                 subst eo34
                 have p277 : 0 ≤ ((rd l1 x6_2) : Int) := of_decide_eq_true ‹_›
                 have q277 : (rd l1 x6_2) < (x5_2.length : Int) := of_decide_eq_true ‹_›
                 obtain ⟨ad277, e277, hx277_0⟩ := Kd.at_int (Kd.R_reads' HO_5.out).2.2 (rd l1 x6_2) p277 q277
                 cases e277
                 replace p277 := eq_true p277
                 replace q277 := eq_true q277
                 have p25 : 0 ≤ ((rd l1 x6_2) : Int) := of_decide_eq_true ‹_›
                 have q25 : ((rd l1 x6_2) : Int) < ((x5_2.length : Int) : Int) := of_decide_eq_true ‹_›
                 obtain ⟨go25, co25, eo25, gb25, gl25, cl25, HG25⟩ := Kd.R_form HO_5.out (by omega)
                 (first | cases eo25 | (injection eo25 with ea_ en_ ec_; (first | subst ea_ | (injection ea_ with ea_; subst ea_)); subst ec_; clear en_))
                 have GB25 := Aside0.mk gb25
                 have GG25 := Aside0.mk HG25
                 clear gb25 gl25 HG25
                 (first | simp only [add_plain] at hx277_0 | skip)
                 obtain ⟨hx25_0, hf25_0⟩ := Kd.R_celln 0 HO_5.out ((rd l1 x6_2) : Int) p25 q25
                 replace p25 := eq_true p25
                 replace q25 := eq_true q25
                 have HP35 := Kd.R_putg HO_5.out ((rd l1 x6_2) : Int) (wrap64 ((rd x5_2 (rd l1 x6_2)) + 1))
                 try go_wp2_with (first | ((with_reducible refine gate_store (t := 3) (p := 62) rfl ?_); refine store_event (t := 3) (p := 62) (v := ?vo_w36) (w1 := (wc.setCell ⟨go25, ((rd l1 x6_2) : Int).toNat, none⟩ (.int .i64 (wrap64 ((rd x5_2 (rd l1 x6_2)) + 1))))) ?hg ?ho ?hn ?hr ?_; (case ho => rfl); (case hg => rfl); (case hn => rfl); (case hr => first | (go_simp; done) | (go_simp; rfl)); intro w36 hw; have hg : wc.grownBy w36 (some go25) := (by rw [hw]; exact HP35.2); have hp_ : Kd.R (Kd.int .i64) 3 w36 w.heap.size (fun _ => True) (.slice (some ⟨go25, 0, none⟩) x5_2.length co34) y278 := (by rw [hw, Ny278.out]; exact HP35.1); clear HP35; have n0_ := Aside0.mk (hp_); have n1_ := Aside0.mk ((by rw [hw]; exact below_set (HB.out) GB25.out : Below w.heap.size w w36)); clear HO_5; clear HB; have HO_5 := n0_; have HB := n1_; clear n0_ n1_; clear hg hw hp_))
                 have n0_ := Aside0.mk (Kd.R_drew HO_5.out)
                 have n1_ := Aside0.mk (below_drew1 HB.out)
                 clear HO_5
                 clear HB
                 have HO_5 := n0_
                 have HB := n1_
                 clear n0_ n1_
                 have p279 : 0 ≤ ((rd l1 x6_2) : Int) := of_decide_eq_true ‹_›
                 have q279 : (rd l1 x6_2) < (y278.length : Int) := (by have h_ : ((rd l1 x6_2) : Int) < ((x5_2.length : Int) : Int) := of_decide_eq_true ‹_›; first | (have e_ := (Kd.R_reads' HO_5.out).1; omega) | simpa only [Ny278.out, List.length_set] using h_)
                 have ql279 : (((rd l1 x6_2) : Int) < ((x5_2.length : Int) : Int)) = True := eq_true (of_decide_eq_true ‹_›)
                 obtain ⟨ad279, e279, hx279_0⟩ := Kd.at_int (Kd.R_reads' HO_5.out).2.2 (rd l1 x6_2) p279 q279
                 obtain rfl : (⟨go25, 0, none⟩ : Addr) = ad279 := (by injection e279)
                 (first | simp only [add_plain] at hx279_0 | simp only [add_at] at hx279_0 | simp only [Addr.add, Nat.zero_add] at hx279_0 | skip)
                 replace p279 := eq_true p279
                 replace q279 := eq_true q279
                 have p280 : 0 ≤ ((rd l1 x6_2) : Int) := of_decide_eq_true ‹_›
                 have q280 : (rd l1 x6_2) < (l0.length : Int) := of_decide_eq_true ‹_›
                 obtain ⟨ad280, e280, hx280_0, hx280_1, hx280_2, hx280_3, hx280_4, hx280_5, hx280_6, hx280_7⟩ := at_T46 HR0.out (rd l1 x6_2) p280 q280
                 have hw280_7 := hx280_7
                 have hw280_6 := hx280_6
                 have hw280_5 := hx280_5
                 have hw280_4 := hx280_4
                 have hw280_3 := hx280_3
                 have hw280_2 := hx280_2
                 have hw280_1 := hx280_1
                 have hw280_0 := hx280_0
                 cases e280
                 replace hx280_0 := bl HB hx280_0
                 replace hx280_1 := bl HB hx280_1
                 replace hx280_2 := bl HB hx280_2
                 replace hx280_3 := bl HB hx280_3
                 replace hx280_4 := bl HB hx280_4
                 replace hx280_5 := bl HB hx280_5
                 replace hx280_6 := bl HB hx280_6
                 replace hx280_7 := bl HB hx280_7
                 replace p280 := eq_true p280
                 replace q280 := eq_true q280
                 refine start_ (n := 10) (S := fun w' => w'.cell? ⟨go25, ((rd l1 x6_2)).toNat, none⟩ = some (.int .i64 (rd y278 (rd l1 x6_2))) ∧ w'.cell? (ad280.add (((rd l1 x6_2)).toNat * 8)) = some (.string ((rd_T46 l0 (rd l1 x6_2)).f0)) ∧ w'.cell? ⟨(ad280.add (((rd l1 x6_2)).toNat * 8)).block, (ad280.add (((rd l1 x6_2)).toNat * 8)).off + 1, none⟩ = some (.int .i64 ((rd_T46 l0 (rd l1 x6_2)).f1)) ∧ w'.cell? ⟨(ad280.add (((rd l1 x6_2)).toNat * 8)).block, (ad280.add (((rd l1 x6_2)).toNat * 8)).off + 2, none⟩ = some (.int .i64 ((rd_T46 l0 (rd l1 x6_2)).f2)) ∧ w'.cell? ⟨(ad280.add (((rd l1 x6_2)).toNat * 8)).block, (ad280.add (((rd l1 x6_2)).toNat * 8)).off + 3, none⟩ = some (.int .i64 ((rd_T46 l0 (rd l1 x6_2)).f3)) ∧ w'.cell? ⟨(ad280.add (((rd l1 x6_2)).toNat * 8)).block, (ad280.add (((rd l1 x6_2)).toNat * 8)).off + 4, none⟩ = some (.int .i64 ((rd_T46 l0 (rd l1 x6_2)).f4)) ∧ w'.cell? ⟨(ad280.add (((rd l1 x6_2)).toNat * 8)).block, (ad280.add (((rd l1 x6_2)).toNat * 8)).off + 5, none⟩ = some (.int .i64 ((rd_T46 l0 (rd l1 x6_2)).f5)) ∧ w'.cell? ⟨(ad280.add (((rd l1 x6_2)).toNat * 8)).block, (ad280.add (((rd l1 x6_2)).toNat * 8)).off + 6, none⟩ = some (.int .i64 ((rd_T46 l0 (rd l1 x6_2)).f6)) ∧ w'.cell? ⟨(ad280.add (((rd l1 x6_2)).toNat * 8)).block, (ad280.add (((rd l1 x6_2)).toNat * 8)).off + 7, none⟩ = some (.bool ((rd_T46 l0 (rd l1 x6_2)).f7))) (ds := []) #[F,F,F,F,F,F,F,F,F,F] (by kernel_rfl) rfl rfl ⟨hx279_0, ((HB.out.cell (World.block_lt_of_cell? w _ hw280_0)).trans hw280_0), ((HB.out.cell (World.block_lt_of_cell? w _ hw280_1)).trans hw280_1), ((HB.out.cell (World.block_lt_of_cell? w _ hw280_2)).trans hw280_2), ((HB.out.cell (World.block_lt_of_cell? w _ hw280_3)).trans hw280_3), ((HB.out.cell (World.block_lt_of_cell? w _ hw280_4)).trans hw280_4), ((HB.out.cell (World.block_lt_of_cell? w _ hw280_5)).trans hw280_5), ((HB.out.cell (World.block_lt_of_cell? w _ hw280_6)).trans hw280_6), ((HB.out.cell (World.block_lt_of_cell? w _ hw280_7)).trans hw280_7)⟩ (fun hHeld => ?_); refine with_tabW tocsinref8_GoodTrace.tab12 tocsinref8_GoodTrace.bits12 (fun HT_ HW_ => ?_)
                 generalize w36.drew = w37 at HO_5 HB hx279_0 hx280_0 hx280_1 hx280_2 hx280_3 hx280_4 hx280_5 hx280_6 hx280_7 hHeld ⊢
                 refine pure_ (i := 0) (N := some 63) (v := ?_) (a' := ?_) #[T,F,F,F,F,F,F,F,F,F] rfl rfl (any_of HT_.out (by kernel_rfl)) (fun _ _ _ h => h) (Or.inl ⟨by rfl, ?_⟩) ?_ ?_
                 rotate_left
                 ·intro w'
                  go_simp
                  with_reducible rfl
                 rotate_left
                 ·simp only [Act.put, List.setIfInBounds_toArray, List.set_cons_zero, List.set_cons_succ, i64_w, i32_w]
                  rfl
                 refine pure_ (i := 1) (N := some 64) (v := ?_) (a' := ?_) #[T,T,F,F,F,F,F,F,F,F] rfl rfl (any_of HT_.out (by kernel_rfl)) (fun _ _ _ h => h) (Or.inl ⟨by rfl, ?_⟩) ?_ ?_
                 rotate_left
                 ·intro w'
                  go_simp
                  with_reducible rfl
                 rotate_left
                 ·simp only [Act.put, List.setIfInBounds_toArray, List.set_cons_zero, List.set_cons_succ, i64_w, i32_w]
                  rfl
                 refine pure_ (i := 2) (N := some 65) (v := ?_) (a' := ?_) #[T,T,T,F,F,F,F,F,F,F] rfl rfl (any_of HT_.out (by kernel_rfl)) (fun _ _ _ h => h) (Or.inl ⟨by rfl, ?_⟩) ?_ ?_
                 rotate_left
                 ·intro w'
                  go_simp
                  with_reducible rfl
                 rotate_left
                 ·simp only [Act.put, List.setIfInBounds_toArray, List.set_cons_zero, List.set_cons_succ, i64_w, i32_w]
                  rfl
                 refine pure_ (i := 4) (N := some 67) (v := ?_) (a' := ?_) #[T,T,T,F,T,F,F,F,F,F] rfl rfl (any_of HT_.out (by kernel_rfl)) (fun _ _ _ h => h) (Or.inl ⟨by rfl, ?_⟩) ?_ ?_
                 rotate_left
                 ·intro w'
                  go_simp
                  with_reducible rfl
                 rotate_left
                 ·simp only [Act.put, List.setIfInBounds_toArray, List.set_cons_zero, List.set_cons_succ, i64_w, i32_w]
                  rfl
                 refine pure_ (i := 5) (N := some 68) (v := ?_) (a' := ?_) #[T,T,T,F,T,T,F,F,F,F] rfl rfl (any_of HT_.out (by kernel_rfl)) (fun _ _ _ h => h) (Or.inl ⟨by rfl, ?_⟩) ?_ ?_
                 rotate_left
                 ·intro w'
                  go_simp
                  with_reducible rfl
                 rotate_left
                 ·simp only [Act.put, List.setIfInBounds_toArray, List.set_cons_zero, List.set_cons_succ, i64_w, i32_w]
                  rfl
                 refine pure_ (i := 6) (N := some 69) (v := ?_) (a' := ?_) #[T,T,T,F,T,T,T,F,F,F] rfl rfl (any_of HT_.out (by kernel_rfl)) (fun _ _ _ h => h) (Or.inl ⟨by rfl, ?_⟩) ?_ ?_
                 rotate_left
                 ·intro w'
                  go_simp
                  with_reducible rfl
                 rotate_left
                 ·simp only [Act.put, List.setIfInBounds_toArray, List.set_cons_zero, List.set_cons_succ, i64_w, i32_w]
                  rfl
                 refine take_ (i := 3) (N := some 66) (v := ?_) (a' := ?_) #[T,T,T,T,T,T,T,F,F,F] rfl rfl (take_ofW HT_.out HW_.out (by kernel_rfl)) (fun _ _ _ h => h) (Or.inl ⟨by rfl, ?_⟩) hHeld ?_ ?_
                 rotate_left
                 ·rintro w' ⟨s0, s1, s2, s3, s4, s5, s6, s7, s8⟩
                  go_simp
                  with_reducible rfl
                 rotate_left
                 ·simp only [Act.put, List.setIfInBounds_toArray, List.set_cons_zero, List.set_cons_succ, i64_w, i32_w]
                  rfl
                 refine take_ (i := 7) (N := some 70) (v := ?_) (a' := ?_) #[T,T,T,T,T,T,T,T,F,F] rfl rfl (take_ofW HT_.out HW_.out (by kernel_rfl)) (fun _ _ _ h => h) (Or.inl ⟨by rfl, ?_⟩) hHeld ?_ ?_
                 rotate_left
                 ·rintro w' ⟨s0, s1, s2, s3, s4, s5, s6, s7, s8⟩
                  go_simp
                  with_reducible rfl
                 rotate_left
                 ·simp only [Act.put, List.setIfInBounds_toArray, List.set_cons_zero, List.set_cons_succ, i64_w, i32_w]
                  rfl
                 refine one_ (i := 8) (N := some 71) #[true, true, true, true, true, true, true, true, true, false] rfl rfl (one_of HT_.out (by kernel_rfl)) (by decide) (fun K hK => ?_)
                 refine goes_ Tryz.func31 (by kernel_rfl) rfl #[.agg #[.string ((rd_T46 l0 (rd l1 x6_2)).f0), .int .i64 ((rd_T46 l0 (rd l1 x6_2)).f1), .int .i64 ((rd_T46 l0 (rd l1 x6_2)).f2), .int .i64 ((rd_T46 l0 (rd l1 x6_2)).f3), .int .i64 ((rd_T46 l0 (rd l1 x6_2)).f4), .int .i64 ((rd_T46 l0 (rd l1 x6_2)).f5), .int .i64 ((rd_T46 l0 (rd l1 x6_2)).f6), .bool ((rd_T46 l0 (rd l1 x6_2)).f7)]] (by rfl) rfl rfl (by (try simp only [List.map_toArray, List.map_cons, List.map_nil]); first | done | rfl | (simp only [List.length_drop, List.length_take]; rfl)) ?_
                 with_reducible refine (tocsinref8_Work.calls ((rd_T46 l0 (rd l1 x6_2)).f0) ((rd_T46 l0 (rd l1 x6_2)).f1) ((rd_T46 l0 (rd l1 x6_2)).f2) ((rd_T46 l0 (rd l1 x6_2)).f3) ((rd_T46 l0 (rd l1 x6_2)).f4) ((rd_T46 l0 (rd l1 x6_2)).f5) ((rd_T46 l0 (rd l1 x6_2)).f6) ((rd_T46 l0 (rd l1 x6_2)).f7) t281 _ (tab_below HTb.out (bel HB)) A27.out).mono ?_
                 rintro e w38 ⟨rfl, hb⟩
                 have HS0_ := (hb.cell (World.block_lt_of_cell? _ _ (hHeld.1))).trans (hHeld.1)
                 refine ⟨_, rfl, ?_⟩
                 have n0_ := Aside0.mk (Kd.R_below (by (with_reducible repeat (first | apply Kd.R_alloc | apply Kd.R_drewN | apply Kd.R_drew)); exact HO_5.out) hb)
                 have n1_ := Aside0.mk (below_step (bel HB) hb)
                 clear HO_5
                 clear HB
                 have HO_5 := n0_
                 have HB := n1_
                 clear n0_ n1_
                 (try clear hb)
                 (try clear hb2)
                 (try clear hk)
                 (try clear hi)
                 refine hK.out _ _ ⟨HS0_, ((HB.out.cell (World.block_lt_of_cell? w _ hw280_0)).trans hw280_0), ((HB.out.cell (World.block_lt_of_cell? w _ hw280_1)).trans hw280_1), ((HB.out.cell (World.block_lt_of_cell? w _ hw280_2)).trans hw280_2), ((HB.out.cell (World.block_lt_of_cell? w _ hw280_3)).trans hw280_3), ((HB.out.cell (World.block_lt_of_cell? w _ hw280_4)).trans hw280_4), ((HB.out.cell (World.block_lt_of_cell? w _ hw280_5)).trans hw280_5), ((HB.out.cell (World.block_lt_of_cell? w _ hw280_6)).trans hw280_6), ((HB.out.cell (World.block_lt_of_cell? w _ hw280_7)).trans hw280_7)⟩ (fun hHeld => ?_)
                 clear hK K
                 refine norm_ (a' := ?_) ?_ ?_
                 rotate_left
                 ·show Act.put _ (some 71) _ = _
                  simp only [Act.put, List.setIfInBounds_toArray, List.set_cons_zero, List.set_cons_succ, i64_w, i32_w]
                  rfl
                 refine pure_ (i := 9) (N := some 72) (v := ?_) (a' := ?_) #[T,T,T,T,T,T,T,T,T,T] rfl rfl (any_of HT_.out (by kernel_rfl)) (fun _ _ _ h => h) (Or.inl ⟨by rfl, ?_⟩) ?_ ?_
                 rotate_left
                 ·intro w'
                  go_simp
                  with_reducible rfl
                 rotate_left
                 ·simp only [Act.put, List.setIfInBounds_toArray, List.set_cons_zero, List.set_cons_succ, i64_w, i32_w]
                  rfl
                 refine done_ (done_of HT_.out (by kernel_rfl)) ?_
                 have H := HH_.out
                 clear HH_
                 by_cases c28 : (rd y278 (rd l1 x6_2)) > t281
                 ·rw [if_pos c28] at H
                  have c28b0 : decide (t281 < (rd y278 (rd l1 x6_2))) = true := decide_eq_true c28
                  rw [c28b0]
                  clear c28
                  obtain rfl := Option.some.inj H
                  try go_wp2
                  go_ret
                  exact ⟨by first | rfl | (simp [*] <;> rfl), bel HB⟩
                 ·rw [if_neg c28] at H
                  have c28b0 : decide (t281 < (rd y278 (rd l1 x6_2))) = false := decide_eq_false c28
                  rw [c28b0]
                  clear c28
                  have H' := Aside0.mk H
                  clear H
                  try go_wp2
                  go_roundg kj15
                  case measure => have := HJ2.out; have := HK2.out; have := HJ15.out; omega
                  case rel => exact ⟨(y278), (wrap64 (x6_2 + 1)), (by first | rfl | simp [*]), H', ⟨by have := HJ2.out; have := HK2.out; have := HJ15.out; omega⟩, ⟨by (with_reducible repeat (first | apply Kd.R_alloc | apply Kd.R_drewN | apply Kd.R_drew)); exact HO_5.out⟩, ⟨bel HB⟩⟩
                ·rw [if_neg c26] at H
                 exact absurd H (by simp)
               ·rw [if_neg c24] at H
                exact absurd H (by simp)
              ·rw [if_neg c23] at H
               exact absurd H (by simp)
         ·rw [if_neg c14] at H
          exact absurd H (by simp)
        ·rw [if_neg c13] at H
         have c13b0 : decide (x6_2 < (l1.length : Int)) = false := decide_eq_false c13
         clear c13
         obtain rfl := Option.some.inj H
         go_wp2
         go_ret
         exact ⟨by first | rfl | (simp [*] <;> rfl), bel HB⟩
     ·rw [if_neg c10] at H
      exact absurd H (by simp)
    ·rw [if_neg c9] at H
     exact absurd H (by simp)
end Go.Proofs.YtobkfbkhcghaeaaGreatDoor.PRv
namespace Go.Proofs.YtobkfbkhcghaeaaGreatDoor.PRv
open Go.RowKit Go.Proofs.YtobkfbkhcghaeaaGreatDoorW.PrintWords Go.Proofs.YtobkfbkhcghaeaaGreatDoorW.PrintLast Go.Proofs.YtobkfbkhcghaeaaGreatDoorW.PrintMore
attribute [local go_sem] max2_int min2_int max_two min_two max_three min_three max_four min_four   -- for this text's walks alone
set_option linter.unusedVariables false
set_option linter.unusedSimpArgs false

/-! ### tocsinref8_DoneAt: function 52 -/
mutual
def tocsinref8_DoneAt.j0 : Nat → List (S46) → List Int → Int → Bool → Option (Int × Bool)
 | 0, _, _, _, _ => none
 | k + 1, x0, x1, x2, x22 => if x22 = true then (some (0, false)) else (tocsinref8_DoneAt.l0 k x0 x1 x2 0 0)
def tocsinref8_DoneAt.l0 : Nat → List (S46) → List Int → Int → Int → Int → Option (Int × Bool)
 | 0, _, _, _, _, _ => none
 | k + 1, x0, x1, x2, x8, x9 => if x9 < (x1.length : Int) then (if 0 ≤ x9 then (if (rd x1 x9) = x2 then (if 0 ≤ x2 then (if x2 < (x0.length : Int) then ((tocsinref8_Work.f ((rd_T46 x0 x2).f0) ((rd_T46 x0 x2).f1) ((rd_T46 x0 x2).f2) ((rd_T46 x0 x2).f3) ((rd_T46 x0 x2).f4) ((rd_T46 x0 x2).f5) ((rd_T46 x0 x2).f6) ((rd_T46 x0 x2).f7)).bind fun t285 => (if (wrap64 (x8 + 1)) = t285 then (some (wrap64 (x9 + 1), true)) else (tocsinref8_DoneAt.l0 k x0 x1 x2 (wrap64 (x8 + 1)) (wrap64 (x9 + 1))))) else (none)) else (none)) else (tocsinref8_DoneAt.l0 k x0 x1 x2 x8 (wrap64 (x9 + 1)))) else (none)) else (some (0, false))
end
def tocsinref8_DoneAt.f (k : Nat) (l0 : List (S46)) (l1 : List Int) (a2 : Int) : Option (Int × Bool) := if a2 < 0 then (tocsinref8_DoneAt.j0 k l0 l1 a2 true) else (if a2 ≥ (l0.length : Int) then (tocsinref8_DoneAt.j0 k l0 l1 a2 true) else ((tocsinref8_All.f k l0).bind fun t282 => (tocsinref8_DoneAt.j0 k l0 l1 a2 (!t282))))
set_option maxHeartbeats 8000000 in
set_option maxRecDepth 100000 in
theorem tocsinref8_DoneAt.calls (k : Nat) (A0 : Option Addr) (c0 : Nat) (l0 : List (S46)) (A1 : Option Addr) (c1 : Nat) (l1 : List Int) (a2 : Int) (r1 : Int) (r2 : Bool) (w : World) (hTb : Tab w) (hr0 : Kd.C k46 w A0 l0.length l0) (hc0 : l0.length ≤ c0) (hr1 : Kd.C (Kd.int .i64) w A1 l1.length l1) (hc1 : l1.length ≤ c1) (h : tocsinref8_DoneAt.f k l0 l1 a2 = some (r1, r2)) :
  Calls Tryz.prog 52 #[.slice A0 l0.length c0, .slice A1 l1.length c1, .int .i64 a2] w fun e w' => e = .returned (.tuple #[.int .i64 r1, .bool r2]) ∧ Below w.heap.size w w' := by
 have HTb := Aside0.mk hTb
 clear hTb
 have hu46 := Tryz.underlying46
 have HR0 := Aside0.mk hr0
 have HC0 := Aside0.mk hc0
 clear hr0 hc0
 have HR1 := Aside0.mk hr1
 have HC1 := Aside0.mk hc1
 clear hr1 hc1
 have HB := Aside0.mk (Below.refl w.heap.size w)
 have H : (if a2 < 0 then (tocsinref8_DoneAt.j0 k l0 l1 a2 true) else (if a2 ≥ (l0.length : Int) then (tocsinref8_DoneAt.j0 k l0 l1 a2 true) else ((tocsinref8_All.f k l0).bind fun t282 => (tocsinref8_DoneAt.j0 k l0 l1 a2 (!t282))))) = some (r1, r2) := h
 clear h
 have HC4 := Aside0.mk H
 clear H
 go_enter Tryz.func52, Tryz.ntmps52
 go_upto_region 1 with (fail)
 go_cut [22] (fun v22 wc => ∃ (kq : Nat) (x22_3 : Bool), v22 = .bool x22_3 ∧ Aside0 (tocsinref8_DoneAt.j0 kq l0 l1 a2 x22_3 = some (r1, r2)) ∧ Aside0 (kq ≤ k) ∧ Aside0 (Below w.heap.size w wc))
 case first =>
  have H := HC4.out
  clear HC4
  by_cases c5 : a2 < 0
  ·rw [if_pos c5] at H
   have c5b0 : decide (a2 < 0) = true := decide_eq_true c5
   clear c5
   (first | rw [c5b0] | (simp only [i64_w, i32_w]; rw [c5b0]) | skip)
   have H' := Aside0.mk H
   clear H
   go_wp2
   go_meet
   case rel => exact ⟨_, (true), (by first | rfl | simp [*]), H', ⟨by first | omega | exact Nat.le_refl _⟩, ⟨bel HB⟩⟩
  ·rw [if_neg c5] at H
   have c5b0 : decide (a2 < 0) = false := decide_eq_false c5
   clear c5
   (first | rw [c5b0] | (simp only [i64_w, i32_w]; rw [c5b0]) | skip)
   by_cases c6 : a2 ≥ (l0.length : Int)
   ·rw [if_pos c6] at H
    have c6b0 : decide ((l0.length : Int) ≤ a2) = true := decide_eq_true c6
    clear c6
    have H' := Aside0.mk H
    clear H
    go_wp2
    go_meet
    case rel => exact ⟨_, (true), (by first | rfl | simp [*]), H', ⟨by first | omega | exact Nat.le_refl _⟩, ⟨bel HB⟩⟩
   ·rw [if_neg c6] at H
    have c6b0 : decide ((l0.length : Int) ≤ a2) = false := decide_eq_false c6
    clear c6
    replace H := Option.bind_eq_some_iff.mp H
    obtain ⟨t282, A70, H⟩ := H
    replace H : (tocsinref8_DoneAt.j0 k l0 l1 a2 (!t282)) = some (r1, r2) := H
    have A7 := Aside0.mk A70
    clear A70
    have H' := Aside0.mk H
    clear H
    go_wp2_with (first | (go_at_call 23; (with_reducible refine (tocsinref8_All.calls k _ _ l0 t282 _ (tab_below HTb.out (bel HB)) ?side1 ?side2 A7.out).mono ?_); (case side1 => repeat (first | exact (Kd.C_below HR0.out HB.out) | (with_reducible refine Kd.C_alloc ?_ _) | (with_reducible refine Kd.C_drewN ?_ _) | (with_reducible refine Kd.C_drew ?_))); (case side2 => exact HC0.out); rintro e w8 ⟨rfl, hb⟩; have n0_ := Aside0.mk (below_step (bel HB) hb); clear HB; have HB := n0_; clear n0_; (try clear hb); (try clear hb2); (try clear hk); (try clear hi)))
    go_meet
    case rel => exact ⟨_, (!t282), (by first | rfl | simp [*]), H', ⟨by first | omega | exact Nat.le_refl _⟩, ⟨bel HB⟩⟩
 case rest =>
  clear HC4
  try clear c1
  try clear p2
  try clear c5
  try clear c5b0
  try clear c6
  try clear c6b0
  obtain ⟨kq, x22_3, rfl, HA, HJ3, HB⟩ := hcut
  cases kq with
  | zero => exact absurd HA.out (by simp [tocsinref8_DoneAt.j0])
  | succ kj3 =>
   have H := HA.out
   clear HA
   simp only [tocsinref8_DoneAt.j0] at H
   by_cases c9 : x22_3 = true
   ·subst c9
    have H1 : (some (0, false)) = some (r1, r2) := by rw [if_pos rfl] at H; exact H
    clear H
    have H := H1
    clear H1
    simp only [Option.some.injEq, Prod.mk.injEq] at H
    obtain ⟨rfl, rfl⟩ := H
    go_wp2
    go_ret2
    exact ⟨by first | rfl | (simp [*] <;> rfl), bel HB⟩
   ·replace c9 := Bool.eq_false_iff.mpr c9
    subst c9
    have H1 : (tocsinref8_DoneAt.l0 kj3 l0 l1 a2 0 0) = some (r1, r2) := by rw [if_neg (show ¬ (false = true) by decide)] at H; exact H
    clear H
    have H := H1
    clear H1
    have H' := Aside0.mk H
    clear H
    go_wp2
    go_loopg [8, 9] kj3 (fun kq v8 v9 w' => ∃ (x8_2 : Int) (x9_2 : Int), v8 = .int .i64 x8_2 ∧ v9 = .int .i64 x9_2 ∧ Aside0 (tocsinref8_DoneAt.l0 kq l0 l1 a2 x8_2 x9_2 = some (r1, r2)) ∧ Aside0 (kq ≤ kj3) ∧ Aside0 (Below w.heap.size w w'))
    case atStart => exact ⟨(0), (0), (by first | rfl | simp [*]), (by first | rfl | simp [*]), H', ⟨Nat.le_refl _⟩, ⟨bel HB⟩⟩
    case round =>
     clear H'
     try clear c1
     try clear p2
     try clear c5
     try clear c5b0
     try clear c6
     try clear c6b0
     try clear c9
     try clear p2
     obtain ⟨x8_2, x9_2, rfl, rfl, HA, HK2, HB⟩ := hrel
     cases gk with
     | zero => exact absurd HA.out (by simp [tocsinref8_DoneAt.l0])
     | succ k2 =>
      have H := HA.out
      clear HA
      simp only [tocsinref8_DoneAt.l0] at H
      by_cases c10 : x9_2 < (l1.length : Int)
      ·rw [if_pos c10] at H
       have c10b0 : decide (x9_2 < (l1.length : Int)) = true := decide_eq_true c10
       clear c10
       by_cases c11 : 0 ≤ x9_2
       ·rw [if_pos c11] at H
        have c11b0 : decide (0 ≤ x9_2) = true := decide_eq_true c11
        clear c11
        by_cases c12 : (rd l1 x9_2) = a2
        ·rw [if_pos c12] at H
         have c12b0 : ((rd l1 x9_2) == a2) = true := beq_iff_eq.mpr c12
         have c12b1 : ((rd l1 x9_2) != a2) = false := bne_eq_false_iff_eq.mpr c12
         clear c12
         by_cases c13 : 0 ≤ a2
         ·rw [if_pos c13] at H
          have c13b0 : decide (0 ≤ a2) = true := decide_eq_true c13
          clear c13
          by_cases c14 : a2 < (l0.length : Int)
          ·rw [if_pos c14] at H
           have c14b0 : decide (a2 < (l0.length : Int)) = true := decide_eq_true c14
           clear c14
           replace H := Option.bind_eq_some_iff.mp H
           obtain ⟨t285, A150, H⟩ := H
           replace H : (if (wrap64 (x8_2 + 1)) = t285 then (some (wrap64 (x9_2 + 1), true)) else (tocsinref8_DoneAt.l0 k2 l0 l1 a2 (wrap64 (x8_2 + 1)) (wrap64 (x9_2 + 1)))) = some (r1, r2) := H
           have A15 := Aside0.mk A150
           clear A150
           by_cases c16 : (wrap64 (x8_2 + 1)) = t285
           ·rw [if_pos c16] at H
            have c16b0 : ((wrap64 (x8_2 + 1)) == t285) = true := beq_iff_eq.mpr c16
            have c16b1 : ((wrap64 (x8_2 + 1)) != t285) = false := bne_eq_false_iff_eq.mpr c16
            clear c16
            simp only [Option.some.injEq, Prod.mk.injEq] at H
            obtain ⟨rfl, rfl⟩ := H
            have p283 : 0 ≤ (x9_2 : Int) := of_decide_eq_true ‹_›
            have q283 : x9_2 < (l1.length : Int) := of_decide_eq_true ‹_›
            obtain ⟨ad283, e283, hx283_0⟩ := Kd.at_int HR1.out x9_2 p283 q283
            cases e283
            replace hx283_0 := bl HB hx283_0
            replace p283 := eq_true p283
            replace q283 := eq_true q283
            have p284 : 0 ≤ (a2 : Int) := of_decide_eq_true ‹_›
            have q284 : a2 < (l0.length : Int) := of_decide_eq_true ‹_›
            obtain ⟨ad284, e284, hx284_0, hx284_1, hx284_2, hx284_3, hx284_4, hx284_5, hx284_6, hx284_7⟩ := at_T46 HR0.out a2 p284 q284
            cases e284
            replace hx284_0 := bl HB hx284_0
            replace hx284_1 := bl HB hx284_1
            replace hx284_2 := bl HB hx284_2
            replace hx284_3 := bl HB hx284_3
            replace hx284_4 := bl HB hx284_4
            replace hx284_5 := bl HB hx284_5
            replace hx284_6 := bl HB hx284_6
            replace hx284_7 := bl HB hx284_7
            replace p284 := eq_true p284
            replace q284 := eq_true q284
            go_wp2_with (first | ((with_reducible refine gate_callee (f := 31) rfl ?_); refine goesL_ (some 42) rfl rfl Tryz.func31 (by kernel_rfl) rfl #[.agg #[.string ((rd_T46 l0 a2).f0), .int .i64 ((rd_T46 l0 a2).f1), .int .i64 ((rd_T46 l0 a2).f2), .int .i64 ((rd_T46 l0 a2).f3), .int .i64 ((rd_T46 l0 a2).f4), .int .i64 ((rd_T46 l0 a2).f5), .int .i64 ((rd_T46 l0 a2).f6), .bool ((rd_T46 l0 a2).f7)]] rfl (by (try simp only [List.map_toArray, List.map_cons, List.map_nil]); first | done | rfl | (simp only [List.length_drop, List.length_take]; rfl)) ?_; (with_reducible refine (tocsinref8_Work.calls ((rd_T46 l0 a2).f0) ((rd_T46 l0 a2).f1) ((rd_T46 l0 a2).f2) ((rd_T46 l0 a2).f3) ((rd_T46 l0 a2).f4) ((rd_T46 l0 a2).f5) ((rd_T46 l0 a2).f6) ((rd_T46 l0 a2).f7) t285 _ (tab_below HTb.out (bel HB)) A15.out).mono ?_); rintro e w17 ⟨rfl, hb⟩; refine ⟨_, rfl, ?_⟩; have n0_ := Aside0.mk (below_step (bel HB) hb); clear HB; have HB := n0_; clear n0_; (try clear hb); (try clear hb2); (try clear hk); (try clear hi)))
            go_ret2
            exact ⟨by first | rfl | (simp [*] <;> rfl), bel HB⟩
           ·rw [if_neg c16] at H
            have c16b0 : ((wrap64 (x8_2 + 1)) == t285) = false := beq_eq_false_iff_ne.mpr c16
            have c16b1 : ((wrap64 (x8_2 + 1)) != t285) = true := bne_iff_ne.mpr c16
            have H' := Aside0.mk H
            clear H
            have p283 : 0 ≤ (x9_2 : Int) := of_decide_eq_true ‹_›
            have q283 : x9_2 < (l1.length : Int) := of_decide_eq_true ‹_›
            obtain ⟨ad283, e283, hx283_0⟩ := Kd.at_int HR1.out x9_2 p283 q283
            cases e283
            replace hx283_0 := bl HB hx283_0
            replace p283 := eq_true p283
            replace q283 := eq_true q283
            have p284 : 0 ≤ (a2 : Int) := of_decide_eq_true ‹_›
            have q284 : a2 < (l0.length : Int) := of_decide_eq_true ‹_›
            obtain ⟨ad284, e284, hx284_0, hx284_1, hx284_2, hx284_3, hx284_4, hx284_5, hx284_6, hx284_7⟩ := at_T46 HR0.out a2 p284 q284
            cases e284
            replace hx284_0 := bl HB hx284_0
            replace hx284_1 := bl HB hx284_1
            replace hx284_2 := bl HB hx284_2
            replace hx284_3 := bl HB hx284_3
            replace hx284_4 := bl HB hx284_4
            replace hx284_5 := bl HB hx284_5
            replace hx284_6 := bl HB hx284_6
            replace hx284_7 := bl HB hx284_7
            replace p284 := eq_true p284
            replace q284 := eq_true q284
            go_wp2_with (first | ((with_reducible refine gate_callee (f := 31) rfl ?_); refine goesL_ (some 42) rfl rfl Tryz.func31 (by kernel_rfl) rfl #[.agg #[.string ((rd_T46 l0 a2).f0), .int .i64 ((rd_T46 l0 a2).f1), .int .i64 ((rd_T46 l0 a2).f2), .int .i64 ((rd_T46 l0 a2).f3), .int .i64 ((rd_T46 l0 a2).f4), .int .i64 ((rd_T46 l0 a2).f5), .int .i64 ((rd_T46 l0 a2).f6), .bool ((rd_T46 l0 a2).f7)]] rfl (by (try simp only [List.map_toArray, List.map_cons, List.map_nil]); first | done | rfl | (simp only [List.length_drop, List.length_take]; rfl)) ?_; (with_reducible refine (tocsinref8_Work.calls ((rd_T46 l0 a2).f0) ((rd_T46 l0 a2).f1) ((rd_T46 l0 a2).f2) ((rd_T46 l0 a2).f3) ((rd_T46 l0 a2).f4) ((rd_T46 l0 a2).f5) ((rd_T46 l0 a2).f6) ((rd_T46 l0 a2).f7) t285 _ (tab_below HTb.out (bel HB)) A15.out).mono ?_); rintro e w18 ⟨rfl, hb⟩; refine ⟨_, rfl, ?_⟩; have n0_ := Aside0.mk (below_step (bel HB) hb); clear HB; have HB := n0_; clear n0_; (try clear hb); (try clear hb2); (try clear hk); (try clear hi)))
            go_roundg k2
            case measure => have := HJ3.out; have := HK2.out; omega
            case rel => exact ⟨(wrap64 (x8_2 + 1)), (wrap64 (x9_2 + 1)), (by first | rfl | simp [*]), (by first | rfl | simp [*]), H', ⟨by have := HJ3.out; have := HK2.out; omega⟩, ⟨bel HB⟩⟩
          ·rw [if_neg c14] at H
           exact absurd H (by simp)
         ·rw [if_neg c13] at H
          exact absurd H (by simp)
        ·rw [if_neg c12] at H
         have c12b0 : ((rd l1 x9_2) == a2) = false := beq_eq_false_iff_ne.mpr c12
         have c12b1 : ((rd l1 x9_2) != a2) = true := bne_iff_ne.mpr c12
         have H' := Aside0.mk H
         clear H
         have p283 : 0 ≤ (x9_2 : Int) := of_decide_eq_true ‹_›
         have q283 : x9_2 < (l1.length : Int) := of_decide_eq_true ‹_›
         obtain ⟨ad283, e283, hx283_0⟩ := Kd.at_int HR1.out x9_2 p283 q283
         cases e283
         replace hx283_0 := bl HB hx283_0
         replace p283 := eq_true p283
         replace q283 := eq_true q283
         go_wp2
         go_roundg k2
         case measure => have := HJ3.out; have := HK2.out; omega
         case rel => exact ⟨(x8_2), (wrap64 (x9_2 + 1)), (by first | rfl | simp [*]), (by first | rfl | simp [*]), H', ⟨by have := HJ3.out; have := HK2.out; omega⟩, ⟨bel HB⟩⟩
       ·rw [if_neg c11] at H
        exact absurd H (by simp)
      ·rw [if_neg c10] at H
       have c10b0 : decide (x9_2 < (l1.length : Int)) = false := decide_eq_false c10
       clear c10
       simp only [Option.some.injEq, Prod.mk.injEq] at H
       obtain ⟨rfl, rfl⟩ := H
       go_wp2
       go_ret2
       exact ⟨by first | rfl | (simp [*] <;> rfl), bel HB⟩

/-! ### tocsinref8_MetBy: function 32 -/
def tocsinref8_MetBy.f (k : Nat) (l0 : List (S46)) (l1 : List Int) (a2 : Int) : Option (Bool) := (tocsinref8_DoneAt.f k l0 l1 a2).bind fun bt286 => (if bt286.2 = true then (if 0 ≤ a2 then (if a2 < (l0.length : Int) then (if bt286.1 ≤ ((rd_T46 l0 a2).f2) then (some (decide (((rd_T46 l0 a2).f4) ≤ ((rd_T46 l0 a2).f3)))) else (some false)) else (none)) else (none)) else (some false))
set_option maxHeartbeats 8000000 in
set_option maxRecDepth 100000 in
theorem tocsinref8_MetBy.calls (k : Nat) (A0 : Option Addr) (c0 : Nat) (l0 : List (S46)) (A1 : Option Addr) (c1 : Nat) (l1 : List Int) (a2 : Int) (r : Bool) (w : World) (hTb : Tab w) (hr0 : Kd.C k46 w A0 l0.length l0) (hc0 : l0.length ≤ c0) (hr1 : Kd.C (Kd.int .i64) w A1 l1.length l1) (hc1 : l1.length ≤ c1) (h : tocsinref8_MetBy.f k l0 l1 a2 = some r) :
  Calls Tryz.prog 32 #[.slice A0 l0.length c0, .slice A1 l1.length c1, .int .i64 a2] w fun e w' => e = .returned (.bool r) ∧ Below w.heap.size w w' := by
 have HTb := Aside0.mk hTb
 clear hTb
 have HR0 := Aside0.mk hr0
 have HC0 := Aside0.mk hc0
 clear hr0 hc0
 have HR1 := Aside0.mk hr1
 have HC1 := Aside0.mk hc1
 clear hr1 hc1
 have HB := Aside0.mk (Below.refl w.heap.size w)
 have H : ((tocsinref8_DoneAt.f k l0 l1 a2).bind fun bt286 => (if bt286.2 = true then (if 0 ≤ a2 then (if a2 < (l0.length : Int) then (if bt286.1 ≤ ((rd_T46 l0 a2).f2) then (some (decide (((rd_T46 l0 a2).f4) ≤ ((rd_T46 l0 a2).f3)))) else (some false)) else (none)) else (none)) else (some false))) = some r := h
 clear h
 replace H := Option.bind_eq_some_iff.mp H
 obtain ⟨⟨t286, t287⟩, A40, H⟩ := H
 replace H : (if t287 = true then (if 0 ≤ a2 then (if a2 < (l0.length : Int) then (if t286 ≤ ((rd_T46 l0 a2).f2) then (some (decide (((rd_T46 l0 a2).f4) ≤ ((rd_T46 l0 a2).f3)))) else (some false)) else (none)) else (none)) else (some false)) = some r := H
 have A4 := Aside0.mk A40
 clear A40
 by_cases c5 : t287 = true
 ·subst c5
  have H1 : (if 0 ≤ a2 then (if a2 < (l0.length : Int) then (if t286 ≤ ((rd_T46 l0 a2).f2) then (some (decide (((rd_T46 l0 a2).f4) ≤ ((rd_T46 l0 a2).f3)))) else (some false)) else (none)) else (none)) = some r := by rw [if_pos rfl] at H; exact H
  clear H
  have H := H1
  clear H1
  by_cases c6 : 0 ≤ a2
  ·rw [if_pos c6] at H
   have c6b0 : decide (0 ≤ a2) = true := decide_eq_true c6
   clear c6
   by_cases c7 : a2 < (l0.length : Int)
   ·rw [if_pos c7] at H
    have c7b0 : decide (a2 < (l0.length : Int)) = true := decide_eq_true c7
    clear c7
    by_cases c8 : t286 ≤ ((rd_T46 l0 a2).f2)
    ·rw [if_pos c8] at H
     have c8b0 : decide (t286 ≤ ((rd_T46 l0 a2).f2)) = true := decide_eq_true c8
     clear c8
     obtain rfl := Option.some.inj H
     go_enter Tryz.func32, Tryz.ntmps32
     go_wp2_with (first | (go_at_call 52; (with_reducible refine (tocsinref8_DoneAt.calls k _ _ l0 _ _ l1 a2 t286 true _ (tab_below HTb.out (bel HB)) ?side1 ?side2 ?side3 ?side4 A4.out).mono ?_); (case side1 => repeat (first | exact HR0.out | (with_reducible refine Kd.C_alloc ?_ _) | (with_reducible refine Kd.C_drewN ?_ _) | (with_reducible refine Kd.C_drew ?_))); (case side2 => exact HC0.out); (case side3 => repeat (first | exact HR1.out | (with_reducible refine Kd.C_alloc ?_ _) | (with_reducible refine Kd.C_drewN ?_ _) | (with_reducible refine Kd.C_drew ?_))); (case side4 => exact HC1.out); rintro e w9 ⟨rfl, hb⟩; have n0_ := Aside0.mk (below_step (bel HB) hb); clear HB; have HB := n0_; clear n0_; (try clear hb); (try clear hb2); (try clear hk); (try clear hi); have p288 : 0 ≤ (a2 : Int) := of_decide_eq_true ‹_›; have q288 : a2 < (l0.length : Int) := of_decide_eq_true ‹_›; obtain ⟨ad288, e288, hx288_0, hx288_1, hx288_2, hx288_3, hx288_4, hx288_5, hx288_6, hx288_7⟩ := at_T46 HR0.out a2 p288 q288; cases e288; replace hx288_0 := bl HB hx288_0; replace hx288_1 := bl HB hx288_1; replace hx288_2 := bl HB hx288_2; replace hx288_3 := bl HB hx288_3; replace hx288_4 := bl HB hx288_4; replace hx288_5 := bl HB hx288_5; replace hx288_6 := bl HB hx288_6; replace hx288_7 := bl HB hx288_7; replace p288 := eq_true p288; replace q288 := eq_true q288; have p289 : 0 ≤ (a2 : Int) := of_decide_eq_true ‹_›; have q289 : a2 < (l0.length : Int) := of_decide_eq_true ‹_›; obtain ⟨ad289, e289, hx289_0, hx289_1, hx289_2, hx289_3, hx289_4, hx289_5, hx289_6, hx289_7⟩ := at_T46 HR0.out a2 p289 q289; obtain rfl : ad288 = ad289 := (by injection e289); replace hx289_0 := bl HB hx289_0; replace hx289_1 := bl HB hx289_1; replace hx289_2 := bl HB hx289_2; replace hx289_3 := bl HB hx289_3; replace hx289_4 := bl HB hx289_4; replace hx289_5 := bl HB hx289_5; replace hx289_6 := bl HB hx289_6; replace hx289_7 := bl HB hx289_7; replace p289 := eq_true p289; replace q289 := eq_true q289; have p290 : 0 ≤ (a2 : Int) := of_decide_eq_true ‹_›; have q290 : a2 < (l0.length : Int) := of_decide_eq_true ‹_›; obtain ⟨ad290, e290, hx290_0, hx290_1, hx290_2, hx290_3, hx290_4, hx290_5, hx290_6, hx290_7⟩ := at_T46 HR0.out a2 p290 q290; obtain rfl : ad288 = ad290 := (by injection e290); replace hx290_0 := bl HB hx290_0; replace hx290_1 := bl HB hx290_1; replace hx290_2 := bl HB hx290_2; replace hx290_3 := bl HB hx290_3; replace hx290_4 := bl HB hx290_4; replace hx290_5 := bl HB hx290_5; replace hx290_6 := bl HB hx290_6; replace hx290_7 := bl HB hx290_7; replace p290 := eq_true p290; replace q290 := eq_true q290))
     repeat (go_quiet (first | (go_at_call 52; (with_reducible refine (tocsinref8_DoneAt.calls k _ _ l0 _ _ l1 a2 t286 true _ (tab_below HTb.out (bel HB)) ?side1 ?side2 ?side3 ?side4 A4.out).mono ?_); (case side1 => repeat (first | exact HR0.out | (with_reducible refine Kd.C_alloc ?_ _) | (with_reducible refine Kd.C_drewN ?_ _) | (with_reducible refine Kd.C_drew ?_))); (case side2 => exact HC0.out); (case side3 => repeat (first | exact HR1.out | (with_reducible refine Kd.C_alloc ?_ _) | (with_reducible refine Kd.C_drewN ?_ _) | (with_reducible refine Kd.C_drew ?_))); (case side4 => exact HC1.out); rintro e w9 ⟨rfl, hb⟩; have n0_ := Aside0.mk (below_step (bel HB) hb); clear HB; have HB := n0_; clear n0_; (try clear hb); (try clear hb2); (try clear hk); (try clear hi); have p288 : 0 ≤ (a2 : Int) := of_decide_eq_true ‹_›; have q288 : a2 < (l0.length : Int) := of_decide_eq_true ‹_›; obtain ⟨ad288, e288, hx288_0, hx288_1, hx288_2, hx288_3, hx288_4, hx288_5, hx288_6, hx288_7⟩ := at_T46 HR0.out a2 p288 q288; cases e288; replace hx288_0 := bl HB hx288_0; replace hx288_1 := bl HB hx288_1; replace hx288_2 := bl HB hx288_2; replace hx288_3 := bl HB hx288_3; replace hx288_4 := bl HB hx288_4; replace hx288_5 := bl HB hx288_5; replace hx288_6 := bl HB hx288_6; replace hx288_7 := bl HB hx288_7; replace p288 := eq_true p288; replace q288 := eq_true q288; have p289 : 0 ≤ (a2 : Int) := of_decide_eq_true ‹_›; have q289 : a2 < (l0.length : Int) := of_decide_eq_true ‹_›; obtain ⟨ad289, e289, hx289_0, hx289_1, hx289_2, hx289_3, hx289_4, hx289_5, hx289_6, hx289_7⟩ := at_T46 HR0.out a2 p289 q289; obtain rfl : ad288 = ad289 := (by injection e289); replace hx289_0 := bl HB hx289_0; replace hx289_1 := bl HB hx289_1; replace hx289_2 := bl HB hx289_2; replace hx289_3 := bl HB hx289_3; replace hx289_4 := bl HB hx289_4; replace hx289_5 := bl HB hx289_5; replace hx289_6 := bl HB hx289_6; replace hx289_7 := bl HB hx289_7; replace p289 := eq_true p289; replace q289 := eq_true q289; have p290 : 0 ≤ (a2 : Int) := of_decide_eq_true ‹_›; have q290 : a2 < (l0.length : Int) := of_decide_eq_true ‹_›; obtain ⟨ad290, e290, hx290_0, hx290_1, hx290_2, hx290_3, hx290_4, hx290_5, hx290_6, hx290_7⟩ := at_T46 HR0.out a2 p290 q290; obtain rfl : ad288 = ad290 := (by injection e290); replace hx290_0 := bl HB hx290_0; replace hx290_1 := bl HB hx290_1; replace hx290_2 := bl HB hx290_2; replace hx290_3 := bl HB hx290_3; replace hx290_4 := bl HB hx290_4; replace hx290_5 := bl HB hx290_5; replace hx290_6 := bl HB hx290_6; replace hx290_7 := bl HB hx290_7; replace p290 := eq_true p290; replace q290 := eq_true q290)); try go_wp2_with (first | (go_at_call 52; (with_reducible refine (tocsinref8_DoneAt.calls k _ _ l0 _ _ l1 a2 t286 true _ (tab_below HTb.out (bel HB)) ?side1 ?side2 ?side3 ?side4 A4.out).mono ?_); (case side1 => repeat (first | exact HR0.out | (with_reducible refine Kd.C_alloc ?_ _) | (with_reducible refine Kd.C_drewN ?_ _) | (with_reducible refine Kd.C_drew ?_))); (case side2 => exact HC0.out); (case side3 => repeat (first | exact HR1.out | (with_reducible refine Kd.C_alloc ?_ _) | (with_reducible refine Kd.C_drewN ?_ _) | (with_reducible refine Kd.C_drew ?_))); (case side4 => exact HC1.out); rintro e w9 ⟨rfl, hb⟩; have n0_ := Aside0.mk (below_step (bel HB) hb); clear HB; have HB := n0_; clear n0_; (try clear hb); (try clear hb2); (try clear hk); (try clear hi); have p288 : 0 ≤ (a2 : Int) := of_decide_eq_true ‹_›; have q288 : a2 < (l0.length : Int) := of_decide_eq_true ‹_›; obtain ⟨ad288, e288, hx288_0, hx288_1, hx288_2, hx288_3, hx288_4, hx288_5, hx288_6, hx288_7⟩ := at_T46 HR0.out a2 p288 q288; cases e288; replace hx288_0 := bl HB hx288_0; replace hx288_1 := bl HB hx288_1; replace hx288_2 := bl HB hx288_2; replace hx288_3 := bl HB hx288_3; replace hx288_4 := bl HB hx288_4; replace hx288_5 := bl HB hx288_5; replace hx288_6 := bl HB hx288_6; replace hx288_7 := bl HB hx288_7; replace p288 := eq_true p288; replace q288 := eq_true q288; have p289 : 0 ≤ (a2 : Int) := of_decide_eq_true ‹_›; have q289 : a2 < (l0.length : Int) := of_decide_eq_true ‹_›; obtain ⟨ad289, e289, hx289_0, hx289_1, hx289_2, hx289_3, hx289_4, hx289_5, hx289_6, hx289_7⟩ := at_T46 HR0.out a2 p289 q289; obtain rfl : ad288 = ad289 := (by injection e289); replace hx289_0 := bl HB hx289_0; replace hx289_1 := bl HB hx289_1; replace hx289_2 := bl HB hx289_2; replace hx289_3 := bl HB hx289_3; replace hx289_4 := bl HB hx289_4; replace hx289_5 := bl HB hx289_5; replace hx289_6 := bl HB hx289_6; replace hx289_7 := bl HB hx289_7; replace p289 := eq_true p289; replace q289 := eq_true q289; have p290 : 0 ≤ (a2 : Int) := of_decide_eq_true ‹_›; have q290 : a2 < (l0.length : Int) := of_decide_eq_true ‹_›; obtain ⟨ad290, e290, hx290_0, hx290_1, hx290_2, hx290_3, hx290_4, hx290_5, hx290_6, hx290_7⟩ := at_T46 HR0.out a2 p290 q290; obtain rfl : ad288 = ad290 := (by injection e290); replace hx290_0 := bl HB hx290_0; replace hx290_1 := bl HB hx290_1; replace hx290_2 := bl HB hx290_2; replace hx290_3 := bl HB hx290_3; replace hx290_4 := bl HB hx290_4; replace hx290_5 := bl HB hx290_5; replace hx290_6 := bl HB hx290_6; replace hx290_7 := bl HB hx290_7; replace p290 := eq_true p290; replace q290 := eq_true q290)))
     go_ret
     exact ⟨by first | rfl | (simp [*] <;> rfl), bel HB⟩
    ·rw [if_neg c8] at H
     have c8b0 : decide (t286 ≤ ((rd_T46 l0 a2).f2)) = false := decide_eq_false c8
     clear c8
     obtain rfl := Option.some.inj H
     go_enter Tryz.func32, Tryz.ntmps32
     go_wp2_with (first | (go_at_call 52; (with_reducible refine (tocsinref8_DoneAt.calls k _ _ l0 _ _ l1 a2 t286 true _ (tab_below HTb.out (bel HB)) ?side1 ?side2 ?side3 ?side4 A4.out).mono ?_); (case side1 => repeat (first | exact HR0.out | (with_reducible refine Kd.C_alloc ?_ _) | (with_reducible refine Kd.C_drewN ?_ _) | (with_reducible refine Kd.C_drew ?_))); (case side2 => exact HC0.out); (case side3 => repeat (first | exact HR1.out | (with_reducible refine Kd.C_alloc ?_ _) | (with_reducible refine Kd.C_drewN ?_ _) | (with_reducible refine Kd.C_drew ?_))); (case side4 => exact HC1.out); rintro e w10 ⟨rfl, hb⟩; have n0_ := Aside0.mk (below_step (bel HB) hb); clear HB; have HB := n0_; clear n0_; (try clear hb); (try clear hb2); (try clear hk); (try clear hi); have p288 : 0 ≤ (a2 : Int) := of_decide_eq_true ‹_›; have q288 : a2 < (l0.length : Int) := of_decide_eq_true ‹_›; obtain ⟨ad288, e288, hx288_0, hx288_1, hx288_2, hx288_3, hx288_4, hx288_5, hx288_6, hx288_7⟩ := at_T46 HR0.out a2 p288 q288; cases e288; replace hx288_0 := bl HB hx288_0; replace hx288_1 := bl HB hx288_1; replace hx288_2 := bl HB hx288_2; replace hx288_3 := bl HB hx288_3; replace hx288_4 := bl HB hx288_4; replace hx288_5 := bl HB hx288_5; replace hx288_6 := bl HB hx288_6; replace hx288_7 := bl HB hx288_7; replace p288 := eq_true p288; replace q288 := eq_true q288))
     repeat (go_quiet (first | (go_at_call 52; (with_reducible refine (tocsinref8_DoneAt.calls k _ _ l0 _ _ l1 a2 t286 true _ (tab_below HTb.out (bel HB)) ?side1 ?side2 ?side3 ?side4 A4.out).mono ?_); (case side1 => repeat (first | exact HR0.out | (with_reducible refine Kd.C_alloc ?_ _) | (with_reducible refine Kd.C_drewN ?_ _) | (with_reducible refine Kd.C_drew ?_))); (case side2 => exact HC0.out); (case side3 => repeat (first | exact HR1.out | (with_reducible refine Kd.C_alloc ?_ _) | (with_reducible refine Kd.C_drewN ?_ _) | (with_reducible refine Kd.C_drew ?_))); (case side4 => exact HC1.out); rintro e w10 ⟨rfl, hb⟩; have n0_ := Aside0.mk (below_step (bel HB) hb); clear HB; have HB := n0_; clear n0_; (try clear hb); (try clear hb2); (try clear hk); (try clear hi); have p288 : 0 ≤ (a2 : Int) := of_decide_eq_true ‹_›; have q288 : a2 < (l0.length : Int) := of_decide_eq_true ‹_›; obtain ⟨ad288, e288, hx288_0, hx288_1, hx288_2, hx288_3, hx288_4, hx288_5, hx288_6, hx288_7⟩ := at_T46 HR0.out a2 p288 q288; cases e288; replace hx288_0 := bl HB hx288_0; replace hx288_1 := bl HB hx288_1; replace hx288_2 := bl HB hx288_2; replace hx288_3 := bl HB hx288_3; replace hx288_4 := bl HB hx288_4; replace hx288_5 := bl HB hx288_5; replace hx288_6 := bl HB hx288_6; replace hx288_7 := bl HB hx288_7; replace p288 := eq_true p288; replace q288 := eq_true q288)); try go_wp2_with (first | (go_at_call 52; (with_reducible refine (tocsinref8_DoneAt.calls k _ _ l0 _ _ l1 a2 t286 true _ (tab_below HTb.out (bel HB)) ?side1 ?side2 ?side3 ?side4 A4.out).mono ?_); (case side1 => repeat (first | exact HR0.out | (with_reducible refine Kd.C_alloc ?_ _) | (with_reducible refine Kd.C_drewN ?_ _) | (with_reducible refine Kd.C_drew ?_))); (case side2 => exact HC0.out); (case side3 => repeat (first | exact HR1.out | (with_reducible refine Kd.C_alloc ?_ _) | (with_reducible refine Kd.C_drewN ?_ _) | (with_reducible refine Kd.C_drew ?_))); (case side4 => exact HC1.out); rintro e w10 ⟨rfl, hb⟩; have n0_ := Aside0.mk (below_step (bel HB) hb); clear HB; have HB := n0_; clear n0_; (try clear hb); (try clear hb2); (try clear hk); (try clear hi); have p288 : 0 ≤ (a2 : Int) := of_decide_eq_true ‹_›; have q288 : a2 < (l0.length : Int) := of_decide_eq_true ‹_›; obtain ⟨ad288, e288, hx288_0, hx288_1, hx288_2, hx288_3, hx288_4, hx288_5, hx288_6, hx288_7⟩ := at_T46 HR0.out a2 p288 q288; cases e288; replace hx288_0 := bl HB hx288_0; replace hx288_1 := bl HB hx288_1; replace hx288_2 := bl HB hx288_2; replace hx288_3 := bl HB hx288_3; replace hx288_4 := bl HB hx288_4; replace hx288_5 := bl HB hx288_5; replace hx288_6 := bl HB hx288_6; replace hx288_7 := bl HB hx288_7; replace p288 := eq_true p288; replace q288 := eq_true q288)))
     go_ret
     exact ⟨by first | rfl | (simp [*] <;> rfl), bel HB⟩
   ·rw [if_neg c7] at H
    exact absurd H (by simp)
  ·rw [if_neg c6] at H
   exact absurd H (by simp)
 ·replace c5 := Bool.eq_false_iff.mpr c5
  subst c5
  have H1 : (some false) = some r := by rw [if_neg (show ¬ (false = true) by decide)] at H; exact H
  clear H
  have H := H1
  clear H1
  obtain rfl := Option.some.inj H
  go_enter Tryz.func32, Tryz.ntmps32
  go_wp2_with (first | (go_at_call 52; (with_reducible refine (tocsinref8_DoneAt.calls k _ _ l0 _ _ l1 a2 t286 false _ (tab_below HTb.out (bel HB)) ?side1 ?side2 ?side3 ?side4 A4.out).mono ?_); (case side1 => repeat (first | exact HR0.out | (with_reducible refine Kd.C_alloc ?_ _) | (with_reducible refine Kd.C_drewN ?_ _) | (with_reducible refine Kd.C_drew ?_))); (case side2 => exact HC0.out); (case side3 => repeat (first | exact HR1.out | (with_reducible refine Kd.C_alloc ?_ _) | (with_reducible refine Kd.C_drewN ?_ _) | (with_reducible refine Kd.C_drew ?_))); (case side4 => exact HC1.out); rintro e w11 ⟨rfl, hb⟩; have n0_ := Aside0.mk (below_step (bel HB) hb); clear HB; have HB := n0_; clear n0_; (try clear hb); (try clear hb2); (try clear hk); (try clear hi)))
  repeat (go_quiet (first | (go_at_call 52; (with_reducible refine (tocsinref8_DoneAt.calls k _ _ l0 _ _ l1 a2 t286 false _ (tab_below HTb.out (bel HB)) ?side1 ?side2 ?side3 ?side4 A4.out).mono ?_); (case side1 => repeat (first | exact HR0.out | (with_reducible refine Kd.C_alloc ?_ _) | (with_reducible refine Kd.C_drewN ?_ _) | (with_reducible refine Kd.C_drew ?_))); (case side2 => exact HC0.out); (case side3 => repeat (first | exact HR1.out | (with_reducible refine Kd.C_alloc ?_ _) | (with_reducible refine Kd.C_drewN ?_ _) | (with_reducible refine Kd.C_drew ?_))); (case side4 => exact HC1.out); rintro e w11 ⟨rfl, hb⟩; have n0_ := Aside0.mk (below_step (bel HB) hb); clear HB; have HB := n0_; clear n0_; (try clear hb); (try clear hb2); (try clear hk); (try clear hi))); try go_wp2_with (first | (go_at_call 52; (with_reducible refine (tocsinref8_DoneAt.calls k _ _ l0 _ _ l1 a2 t286 false _ (tab_below HTb.out (bel HB)) ?side1 ?side2 ?side3 ?side4 A4.out).mono ?_); (case side1 => repeat (first | exact HR0.out | (with_reducible refine Kd.C_alloc ?_ _) | (with_reducible refine Kd.C_drewN ?_ _) | (with_reducible refine Kd.C_drew ?_))); (case side2 => exact HC0.out); (case side3 => repeat (first | exact HR1.out | (with_reducible refine Kd.C_alloc ?_ _) | (with_reducible refine Kd.C_drewN ?_ _) | (with_reducible refine Kd.C_drew ?_))); (case side4 => exact HC1.out); rintro e w11 ⟨rfl, hb⟩; have n0_ := Aside0.mk (below_step (bel HB) hb); clear HB; have HB := n0_; clear n0_; (try clear hb); (try clear hb2); (try clear hk); (try clear hi))))
  go_ret
  exact ⟨by first | rfl | (simp [*] <;> rfl), bel HB⟩

/-! ### tocsinref8_Value: function 13 -/
def tocsinref8_Value.l0 : Nat → List (S46) → List Int → Int → Int → Option (Int)
 | 0, _, _, _, _ => none
 | k + 1, x0, x1, x5, x6 => if x6 < (x0.length : Int) then ((tocsinref8_MetBy.f k x0 x1 x6).bind fun t291 => (if t291 = true then (if 0 ≤ x6 then (tocsinref8_Value.l0 k x0 x1 (wrap64 (x5 + ((rd_T46 x0 x6).f5))) (wrap64 (x6 + 1))) else (none)) else (tocsinref8_Value.l0 k x0 x1 x5 (wrap64 (x6 + 1))))) else (some x5)
def tocsinref8_Value.f (k : Nat) (l0 : List (S46)) (l1 : List Int) : Option (Int) := tocsinref8_Value.l0 k l0 l1 0 0
set_option maxHeartbeats 8000000 in
set_option maxRecDepth 100000 in
theorem tocsinref8_Value.calls (k : Nat) (A0 : Option Addr) (c0 : Nat) (l0 : List (S46)) (A1 : Option Addr) (c1 : Nat) (l1 : List Int) (r : Int) (w : World) (hTb : Tab w) (hr0 : Kd.C k46 w A0 l0.length l0) (hc0 : l0.length ≤ c0) (hr1 : Kd.C (Kd.int .i64) w A1 l1.length l1) (hc1 : l1.length ≤ c1) (h : tocsinref8_Value.f k l0 l1 = some r) :
  Calls Tryz.prog 13 #[.slice A0 l0.length c0, .slice A1 l1.length c1] w fun e w' => e = .returned (.int .i64 r) ∧ Below w.heap.size w w' := by
 have HTb := Aside0.mk hTb
 clear hTb
 have HR0 := Aside0.mk hr0
 have HC0 := Aside0.mk hc0
 clear hr0 hc0
 have HR1 := Aside0.mk hr1
 have HC1 := Aside0.mk hc1
 clear hr1 hc1
 have HB := Aside0.mk (Below.refl w.heap.size w)
 have H : (tocsinref8_Value.l0 k l0 l1 0 0) = some r := h
 clear h
 have H' := Aside0.mk H
 clear H
 go_enter Tryz.func13, Tryz.ntmps13
 go_wp2
 go_loopg [5, 6] k (fun kq v5 v6 w' => ∃ (x5_1 : Int) (x6_1 : Int), v5 = .int .i64 x5_1 ∧ v6 = .int .i64 x6_1 ∧ Aside0 (tocsinref8_Value.l0 kq l0 l1 x5_1 x6_1 = some r) ∧ Aside0 (kq ≤ k) ∧ Aside0 (Below w.heap.size w w'))
 case atStart => exact ⟨(0), (0), (by first | rfl | simp [*]), (by first | rfl | simp [*]), H', ⟨Nat.le_refl _⟩, ⟨bel HB⟩⟩
 case round =>
  clear H'
  try clear c1
  try clear p2
  obtain ⟨x5_1, x6_1, rfl, rfl, HA, HK1, HB⟩ := hrel
  cases gk with
  | zero => exact absurd HA.out (by simp [tocsinref8_Value.l0])
  | succ k1 =>
   have H := HA.out
   clear HA
   simp only [tocsinref8_Value.l0] at H
   by_cases c3 : x6_1 < (l0.length : Int)
   ·rw [if_pos c3] at H
    have c3b0 : decide (x6_1 < (l0.length : Int)) = true := decide_eq_true c3
    clear c3
    replace H := Option.bind_eq_some_iff.mp H
    obtain ⟨t291, A40, H⟩ := H
    replace H : (if t291 = true then (if 0 ≤ x6_1 then (tocsinref8_Value.l0 k1 l0 l1 (wrap64 (x5_1 + ((rd_T46 l0 x6_1).f5))) (wrap64 (x6_1 + 1))) else (none)) else (tocsinref8_Value.l0 k1 l0 l1 x5_1 (wrap64 (x6_1 + 1)))) = some r := H
    have A4 := Aside0.mk A40
    clear A40
    by_cases c5 : t291 = true
    ·subst c5
     have H1 : (if 0 ≤ x6_1 then (tocsinref8_Value.l0 k1 l0 l1 (wrap64 (x5_1 + ((rd_T46 l0 x6_1).f5))) (wrap64 (x6_1 + 1))) else (none)) = some r := by rw [if_pos rfl] at H; exact H
     clear H
     have H := H1
     clear H1
     by_cases c6 : 0 ≤ x6_1
     ·rw [if_pos c6] at H
      have c6b0 : decide (0 ≤ x6_1) = true := decide_eq_true c6
      clear c6
      have H' := Aside0.mk H
      clear H
      go_wp2_with (first | ((with_reducible refine gate_callee (f := 32) rfl ?_); refine goesL_ (some 16) rfl rfl Tryz.func32 (by kernel_rfl) rfl #[.slice A0 l0.length c0, .slice A1 l1.length c1, .int .i64 x6_1] rfl (by (try simp only [List.map_toArray, List.map_cons, List.map_nil]); first | done | rfl | (simp only [List.length_drop, List.length_take]; rfl)) ?_; (with_reducible refine (tocsinref8_MetBy.calls k1 _ _ l0 _ _ l1 x6_1 true _ (tab_below HTb.out (bel HB)) ?side1 ?side2 ?side3 ?side4 A4.out).mono ?_); (case side1 => repeat (first | exact (Kd.C_below HR0.out HB.out) | (with_reducible refine Kd.C_alloc ?_ _) | (with_reducible refine Kd.C_drewN ?_ _) | (with_reducible refine Kd.C_drew ?_))); (case side2 => exact HC0.out); (case side3 => repeat (first | exact (Kd.C_below HR1.out HB.out) | (with_reducible refine Kd.C_alloc ?_ _) | (with_reducible refine Kd.C_drewN ?_ _) | (with_reducible refine Kd.C_drew ?_))); (case side4 => exact HC1.out); rintro e w7 ⟨rfl, hb⟩; refine ⟨_, rfl, ?_⟩; have n0_ := Aside0.mk (below_step (bel HB) hb); clear HB; have HB := n0_; clear n0_; (try clear hb); (try clear hb2); (try clear hk); (try clear hi); have p292 : 0 ≤ (x6_1 : Int) := of_decide_eq_true ‹_›; have q292 : x6_1 < (l0.length : Int) := of_decide_eq_true ‹_›; obtain ⟨ad292, e292, hx292_0, hx292_1, hx292_2, hx292_3, hx292_4, hx292_5, hx292_6, hx292_7⟩ := at_T46 HR0.out x6_1 p292 q292; cases e292; replace hx292_0 := bl HB hx292_0; replace hx292_1 := bl HB hx292_1; replace hx292_2 := bl HB hx292_2; replace hx292_3 := bl HB hx292_3; replace hx292_4 := bl HB hx292_4; replace hx292_5 := bl HB hx292_5; replace hx292_6 := bl HB hx292_6; replace hx292_7 := bl HB hx292_7; replace p292 := eq_true p292; replace q292 := eq_true q292))
      go_roundg k1
      case measure => have := HK1.out; omega
      case rel => exact ⟨(wrap64 (x5_1 + ((rd_T46 l0 x6_1).f5))), (wrap64 (x6_1 + 1)), (by first | rfl | simp [*]), (by first | rfl | simp [*]), H', ⟨by have := HK1.out; omega⟩, ⟨bel HB⟩⟩
     ·rw [if_neg c6] at H
      exact absurd H (by simp)
    ·replace c5 := Bool.eq_false_iff.mpr c5
     subst c5
     have H1 : (tocsinref8_Value.l0 k1 l0 l1 x5_1 (wrap64 (x6_1 + 1))) = some r := by rw [if_neg (show ¬ (false = true) by decide)] at H; exact H
     clear H
     have H := H1
     clear H1
     have H' := Aside0.mk H
     clear H
     go_wp2_with (first | ((with_reducible refine gate_callee (f := 32) rfl ?_); refine goesL_ (some 16) rfl rfl Tryz.func32 (by kernel_rfl) rfl #[.slice A0 l0.length c0, .slice A1 l1.length c1, .int .i64 x6_1] rfl (by (try simp only [List.map_toArray, List.map_cons, List.map_nil]); first | done | rfl | (simp only [List.length_drop, List.length_take]; rfl)) ?_; (with_reducible refine (tocsinref8_MetBy.calls k1 _ _ l0 _ _ l1 x6_1 false _ (tab_below HTb.out (bel HB)) ?side1 ?side2 ?side3 ?side4 A4.out).mono ?_); (case side1 => repeat (first | exact (Kd.C_below HR0.out HB.out) | (with_reducible refine Kd.C_alloc ?_ _) | (with_reducible refine Kd.C_drewN ?_ _) | (with_reducible refine Kd.C_drew ?_))); (case side2 => exact HC0.out); (case side3 => repeat (first | exact (Kd.C_below HR1.out HB.out) | (with_reducible refine Kd.C_alloc ?_ _) | (with_reducible refine Kd.C_drewN ?_ _) | (with_reducible refine Kd.C_drew ?_))); (case side4 => exact HC1.out); rintro e w8 ⟨rfl, hb⟩; refine ⟨_, rfl, ?_⟩; have n0_ := Aside0.mk (below_step (bel HB) hb); clear HB; have HB := n0_; clear n0_; (try clear hb); (try clear hb2); (try clear hk); (try clear hi)))
     go_roundg k1
     case measure => have := HK1.out; omega
     case rel => exact ⟨(x5_1), (wrap64 (x6_1 + 1)), (by first | rfl | simp [*]), (by first | rfl | simp [*]), H', ⟨by have := HK1.out; omega⟩, ⟨bel HB⟩⟩
   ·rw [if_neg c3] at H
    have c3b0 : decide (x6_1 < (l0.length : Int)) = false := decide_eq_false c3
    clear c3
    obtain rfl := Option.some.inj H
    go_wp2
    go_ret
    exact ⟨by first | rfl | (simp [*] <;> rfl), bel HB⟩
end Go.Proofs.YtobkfbkhcghaeaaGreatDoor.PRv
namespace Go.Proofs.YtobkfbkhcghaeaaGreatDoor.PRv
open Go.RowKit Go.Proofs.YtobkfbkhcghaeaaGreatDoorW.PrintWords Go.Proofs.YtobkfbkhcghaeaaGreatDoorW.PrintLast Go.Proofs.YtobkfbkhcghaeaaGreatDoorW.PrintMore
attribute [local go_sem] max2_int min2_int max_two min_two max_three min_three max_four min_four   -- for this text's walks alone
set_option linter.unusedVariables false
set_option linter.unusedSimpArgs false

/-! ### tocsinref1_Good: function 14 -/
def tocsinref1_Good.f (a0_0 : Int) (a0_1 : Int) (a0_2 : Int) (a0_3 : Int) : Option (Bool) := if a0_0 ≥ (-1000000000) then (if a0_0 ≤ 1000000000 then (if a0_1 ≥ (-1000000000) then (if a0_1 ≤ 1000000000 then (if a0_2 ≥ 0 then (if a0_2 ≤ 1000000 then (if a0_3 ≥ 1 then (some (decide (a0_3 ≤ 1000000))) else (some false)) else (some false)) else (some false)) else (some false)) else (some false)) else (some false)) else (some false)
set_option maxHeartbeats 8000000 in
set_option maxRecDepth 100000 in
theorem tocsinref1_Good.calls (a0_0 : Int) (a0_1 : Int) (a0_2 : Int) (a0_3 : Int) (r : Bool) (w : World) (h : tocsinref1_Good.f a0_0 a0_1 a0_2 a0_3 = some r) :
  Calls Tryz.prog 14 #[.agg #[.int .i64 a0_0, .int .i64 a0_1, .int .i64 a0_2, .int .i64 a0_3]] w fun e w' => e = .returned (.bool r) ∧ Below w.heap.size w w' := by
 have hu40 := Tryz.underlying40
 have HB := Aside0.mk (Below.refl w.heap.size w)
 have H : (if a0_0 ≥ (-1000000000) then (if a0_0 ≤ 1000000000 then (if a0_1 ≥ (-1000000000) then (if a0_1 ≤ 1000000000 then (if a0_2 ≥ 0 then (if a0_2 ≤ 1000000 then (if a0_3 ≥ 1 then (some (decide (a0_3 ≤ 1000000))) else (some false)) else (some false)) else (some false)) else (some false)) else (some false)) else (some false)) else (some false)) = some r := h
 clear h
 refine dite ((-1000000000) ≤ a0_0) (fun c => ?_) (fun c => ?_)
 rw [if_pos c] at H
 have b0 := decide_eq_true c
 clear c
 refine dite (a0_0 ≤ 1000000000) (fun c => ?_) (fun c => ?_)
 rw [if_pos c] at H
 have b1 := decide_eq_true c
 clear c
 refine dite ((-1000000000) ≤ a0_1) (fun c => ?_) (fun c => ?_)
 rw [if_pos c] at H
 have b2 := decide_eq_true c
 clear c
 refine dite (a0_1 ≤ 1000000000) (fun c => ?_) (fun c => ?_)
 rw [if_pos c] at H
 have b3 := decide_eq_true c
 clear c
 refine dite (0 ≤ a0_2) (fun c => ?_) (fun c => ?_)
 rw [if_pos c] at H
 have b4 := decide_eq_true c
 clear c
 refine dite (a0_2 ≤ 1000000) (fun c => ?_) (fun c => ?_)
 rw [if_pos c] at H
 have b5 := decide_eq_true c
 clear c
 refine dite (1 ≤ a0_3) (fun c => ?_) (fun c => ?_)
 rw [if_pos c] at H
 have b6 := decide_eq_true c
 clear c
 all_goals try (rw [if_neg c] at H; have b_ := decide_eq_false c; clear c)
 all_goals obtain rfl := Option.some.inj H
 all_goals
  go_enter Tryz.func14, Tryz.ntmps14
  go_wp2_with (first | ((with_reducible refine gate_dst (N := 1) rfl ?_); refine box_event ?hg (N := 1) ?hd (cs := #[.int .i64 a0_0, .int .i64 a0_1, .int .i64 a0_2, .int .i64 a0_3]) (t := 40) ?hr ?_; (case hd => rfl); (case hg => rfl); (case hr => first | (go_simp; done) | (go_simp; rfl)); intro gb293 hg w9 hbox hb; have n0_ := Aside0.mk (below_step (bel HB) hb); have n1_ := Aside0.mk (hbox); have n2_ := Aside0.mk (by rw [hg]; exact (below_size (bel HB)) : w.heap.size ≤ gb293); have n3_ := n2_; clear HB; have HB := n0_; have BK293 := n1_; have GW293 := n2_; have GE293 := n3_; clear n0_ n1_ n2_ n3_; clear hb hbox hg; obtain ⟨hcz10_0, hcz10_1, hcz10_2, hcz10_3⟩ := cel4 BK293; obtain ⟨hfz10_0, hfz10_1, hfz10_2, hfz10_3⟩ := frz4 BK293))
  go_ret
  exact ⟨by first | rfl | (simp [*] <;> rfl), by repeat (first | (with_reducible first | exact HB.out | apply below_alloc | apply pw_below_drewN | apply below_drew1 | refine below_set ?_ GE293.out) | exact HB.out)⟩

/-! ### tocsinref1_Bound: function 17 -/
def tocsinref1_Bound.j0 : Nat → Int → Int → Int → Int → Bool → Option (Bool)
 | 0, _, _, _, _, _ => none
 | k + 1, x0, x1, x2, x3, x30 => if x30 = true then (some false) else (if (wrap64 ((wrap64 ((wrap64 (x0 * x3)) - (wrap64 (x1 * x3)))) - (wrap64 (x1 * x2)))) ≤ 0 then (some true) else ((tocsinref1_CmpMul.f (wrap64 ((wrap64 ((wrap64 (x0 * x3)) - (wrap64 (x1 * x3)))) - (wrap64 (x1 * x2)))) (wrap64 ((wrap64 ((wrap64 (x0 * x3)) - (wrap64 (x1 * x3)))) - (wrap64 (x1 * x2)))) (wrap64 ((wrap64 (2 * x1)) * x3)) (wrap64 ((wrap64 (2 * x1)) * x2))).bind fun t295 => (some (decide (t295 ≤ 0)))))
def tocsinref1_Bound.f (k : Nat) (a0 : Int) (a1 : Int) (a2 : Int) (a3 : Int) : Option (Bool) := if a0 < 0 then (tocsinref1_Bound.j0 k a0 a1 a2 a3 true) else (if a1 < 0 then (tocsinref1_Bound.j0 k a0 a1 a2 a3 true) else (if a0 > 1000000000 then (tocsinref1_Bound.j0 k a0 a1 a2 a3 true) else (if a1 > 1000000000 then (tocsinref1_Bound.j0 k a0 a1 a2 a3 true) else ((tocsinref1_Good.f 0 0 a2 a3).bind fun t294 => (tocsinref1_Bound.j0 k a0 a1 a2 a3 (!t294))))))
set_option maxHeartbeats 8000000 in
set_option maxRecDepth 100000 in
theorem tocsinref1_Bound.calls (k : Nat) (a0 : Int) (a1 : Int) (a2 : Int) (a3 : Int) (r : Bool) (w : World) (h : tocsinref1_Bound.f k a0 a1 a2 a3 = some r) :
  Calls Tryz.prog 17 #[.int .i64 a0, .int .i64 a1, .int .i64 a2, .int .i64 a3] w fun e w' => e = .returned (.bool r) ∧ Below w.heap.size w w' := by
 have hu40 := Tryz.underlying40
 have HB := Aside0.mk (Below.refl w.heap.size w)
 have H : (if a0 < 0 then (tocsinref1_Bound.j0 k a0 a1 a2 a3 true) else (if a1 < 0 then (tocsinref1_Bound.j0 k a0 a1 a2 a3 true) else (if a0 > 1000000000 then (tocsinref1_Bound.j0 k a0 a1 a2 a3 true) else (if a1 > 1000000000 then (tocsinref1_Bound.j0 k a0 a1 a2 a3 true) else ((tocsinref1_Good.f 0 0 a2 a3).bind fun t294 => (tocsinref1_Bound.j0 k a0 a1 a2 a3 (!t294))))))) = some r := h
 clear h
 have HC5 := Aside0.mk H
 clear H
 go_enter Tryz.func17, Tryz.ntmps17
 go_upto_region 1 with (fail)
 go_cut [30] (fun v30 wc => ∃ (kq : Nat) (x30_4 : Bool), v30 = .bool x30_4 ∧ Aside0 (tocsinref1_Bound.j0 kq a0 a1 a2 a3 x30_4 = some r) ∧ Aside0 (kq ≤ k) ∧ Aside0 (Below w.heap.size w wc))
 case first =>
  have H := HC5.out
  clear HC5
  by_cases c6 : a0 < 0
  ·rw [if_pos c6] at H
   have c6b0 : decide (a0 < 0) = true := decide_eq_true c6
   clear c6
   (first | rw [c6b0] | (simp only [i64_w, i32_w]; rw [c6b0]) | skip)
   have H' := Aside0.mk H
   clear H
   go_wp2
   go_meet
   case rel => exact ⟨_, (true), (by first | rfl | simp [*]), H', ⟨by first | omega | exact Nat.le_refl _⟩, ⟨bel HB⟩⟩
  ·rw [if_neg c6] at H
   have c6b0 : decide (a0 < 0) = false := decide_eq_false c6
   clear c6
   (first | rw [c6b0] | (simp only [i64_w, i32_w]; rw [c6b0]) | skip)
   by_cases c7 : a1 < 0
   ·rw [if_pos c7] at H
    have c7b0 : decide (a1 < 0) = true := decide_eq_true c7
    clear c7
    have H' := Aside0.mk H
    clear H
    go_wp2
    go_meet
    case rel => exact ⟨_, (true), (by first | rfl | simp [*]), H', ⟨by first | omega | exact Nat.le_refl _⟩, ⟨bel HB⟩⟩
   ·rw [if_neg c7] at H
    have c7b0 : decide (a1 < 0) = false := decide_eq_false c7
    clear c7
    by_cases c8 : a0 > 1000000000
    ·rw [if_pos c8] at H
     have c8b0 : decide (1000000000 < a0) = true := decide_eq_true c8
     clear c8
     have H' := Aside0.mk H
     clear H
     go_wp2
     go_meet
     case rel => exact ⟨_, (true), (by first | rfl | simp [*]), H', ⟨by first | omega | exact Nat.le_refl _⟩, ⟨bel HB⟩⟩
    ·rw [if_neg c8] at H
     have c8b0 : decide (1000000000 < a0) = false := decide_eq_false c8
     clear c8
     by_cases c9 : a1 > 1000000000
     ·rw [if_pos c9] at H
      have c9b0 : decide (1000000000 < a1) = true := decide_eq_true c9
      clear c9
      have H' := Aside0.mk H
      clear H
      go_wp2
      go_meet
      case rel => exact ⟨_, (true), (by first | rfl | simp [*]), H', ⟨by first | omega | exact Nat.le_refl _⟩, ⟨bel HB⟩⟩
     ·rw [if_neg c9] at H
      have c9b0 : decide (1000000000 < a1) = false := decide_eq_false c9
      clear c9
      replace H := Option.bind_eq_some_iff.mp H
      obtain ⟨t294, A100, H⟩ := H
      replace H : (tocsinref1_Bound.j0 k a0 a1 a2 a3 (!t294)) = some r := H
      have A10 := Aside0.mk A100
      clear A100
      have H' := Aside0.mk H
      clear H
      go_wp2_with (first | (go_at_call 14; (with_reducible refine (tocsinref1_Good.calls 0 0 a2 a3 t294 _ A10.out).mono ?_); rintro e w11 ⟨rfl, hb⟩; have n0_ := Aside0.mk (below_step (bel HB) hb); clear HB; have HB := n0_; clear n0_; (try clear hb); (try clear hb2); (try clear hk); (try clear hi)))
      go_meet
      case rel => exact ⟨_, (!t294), (by first | rfl | simp [*]), H', ⟨by first | omega | exact Nat.le_refl _⟩, ⟨bel HB⟩⟩
 case rest =>
  clear HC5
  try clear c1
  try clear p2
  try clear c6
  try clear c6b0
  try clear c7
  try clear c7b0
  try clear c8
  try clear c8b0
  try clear c9
  try clear c9b0
  obtain ⟨kq, x30_4, rfl, HA, HJ4, HB⟩ := hcut
  cases kq with
  | zero => exact absurd HA.out (by simp [tocsinref1_Bound.j0])
  | succ kj4 =>
   have H := HA.out
   clear HA
   simp only [tocsinref1_Bound.j0] at H
   by_cases c12 : x30_4 = true
   ·subst c12
    have H1 : (some false) = some r := by rw [if_pos rfl] at H; exact H
    clear H
    have H := H1
    clear H1
    obtain rfl := Option.some.inj H
    go_wp2
    go_ret
    exact ⟨by first | rfl | (simp [*] <;> rfl), bel HB⟩
   ·replace c12 := Bool.eq_false_iff.mpr c12
    subst c12
    have H1 : (if (wrap64 ((wrap64 ((wrap64 (a0 * a3)) - (wrap64 (a1 * a3)))) - (wrap64 (a1 * a2)))) ≤ 0 then (some true) else ((tocsinref1_CmpMul.f (wrap64 ((wrap64 ((wrap64 (a0 * a3)) - (wrap64 (a1 * a3)))) - (wrap64 (a1 * a2)))) (wrap64 ((wrap64 ((wrap64 (a0 * a3)) - (wrap64 (a1 * a3)))) - (wrap64 (a1 * a2)))) (wrap64 ((wrap64 (2 * a1)) * a3)) (wrap64 ((wrap64 (2 * a1)) * a2))).bind fun t295 => (some (decide (t295 ≤ 0))))) = some r := by rw [if_neg (show ¬ (false = true) by decide)] at H; exact H
    clear H
    have H := H1
    clear H1
    by_cases c13 : (wrap64 ((wrap64 ((wrap64 (a0 * a3)) - (wrap64 (a1 * a3)))) - (wrap64 (a1 * a2)))) ≤ 0
    ·rw [if_pos c13] at H
     have c13b0 : decide ((wrap64 ((wrap64 ((wrap64 (a0 * a3)) - (wrap64 (a1 * a3)))) - (wrap64 (a1 * a2)))) ≤ 0) = true := decide_eq_true c13
     clear c13
     obtain rfl := Option.some.inj H
     go_wp2
     go_ret
     exact ⟨by first | rfl | (simp [*] <;> rfl), bel HB⟩
    ·rw [if_neg c13] at H
     have c13b0 : decide ((wrap64 ((wrap64 ((wrap64 (a0 * a3)) - (wrap64 (a1 * a3)))) - (wrap64 (a1 * a2)))) ≤ 0) = false := decide_eq_false c13
     clear c13
     replace H := Option.bind_eq_some_iff.mp H
     obtain ⟨t295, A140, H⟩ := H
     replace H : (some (decide (t295 ≤ 0))) = some r := H
     have A14 := Aside0.mk A140
     clear A140
     obtain rfl := Option.some.inj H
     go_wp2_with (first | ((with_reducible refine gate_callee (f := 35) rfl ?_); refine goesL_ (some 54) rfl rfl Tryz.func35 (by kernel_rfl) rfl #[.int .i64 (wrap64 ((wrap64 ((wrap64 (a0 * a3)) - (wrap64 (a1 * a3)))) - (wrap64 (a1 * a2)))), .int .i64 (wrap64 ((wrap64 ((wrap64 (a0 * a3)) - (wrap64 (a1 * a3)))) - (wrap64 (a1 * a2)))), .int .i64 (wrap64 ((wrap64 (2 * a1)) * a3)), .int .i64 (wrap64 ((wrap64 (2 * a1)) * a2))] rfl (by (try simp only [List.map_toArray, List.map_cons, List.map_nil]); first | done | rfl | (simp only [List.length_drop, List.length_take]; rfl)) ?_; (with_reducible refine (tocsinref1_CmpMul.calls (wrap64 ((wrap64 ((wrap64 (a0 * a3)) - (wrap64 (a1 * a3)))) - (wrap64 (a1 * a2)))) (wrap64 ((wrap64 ((wrap64 (a0 * a3)) - (wrap64 (a1 * a3)))) - (wrap64 (a1 * a2)))) (wrap64 ((wrap64 (2 * a1)) * a3)) (wrap64 ((wrap64 (2 * a1)) * a2)) t295 _ A14.out).mono ?_); rintro e w15 ⟨rfl, hb⟩; refine ⟨_, rfl, ?_⟩; have n0_ := Aside0.mk (below_step (bel HB) hb); clear HB; have HB := n0_; clear n0_; (try clear hb); (try clear hb2); (try clear hk); (try clear hi)))
     go_ret
     exact ⟨by first | rfl | (simp [*] <;> rfl), bel HB⟩
end Go.Proofs.YtobkfbkhcghaeaaGreatDoor.PRv
