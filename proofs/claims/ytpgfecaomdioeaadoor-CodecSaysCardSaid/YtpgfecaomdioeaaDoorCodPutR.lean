/- The contract of tocsinref8.PutJobs. -/
-- slim
import Derived.Test.YtpgfecaomdioeaaDoorPCtx8
import Derived.Test.YtpgfecaomdioeaaDoorCodC
import Derived.Test.YtpgfecaomdioeaaDoorCodPutJ
namespace Go.Proofs.YtpgfecaomdioeaaDoor.PCt
open Go.RowKit Go.Proofs.YtpgfecaomdioeaaDoor.PCt Go.Proofs.YtpgfecaomdioeaaDoorW.PrintWords Go.Proofs.YtpgfecaomdioeaaDoorW.PrintLast Go.Proofs.YtpgfecaomdioeaaDoorW.PrintMore 
set_option linter.unusedVariables false
set_option linter.unusedSimpArgs false

def fsR (x : S44) : List Int := [x.f1, x.f2, x.f3, x.f4, x.f5, x.f6]
def hardR (x : S44) : Int := if x.f7 = true then 1 else 0
def encR (x : S44) : List Int := encI x.f0.size ++ (bytesOf x.f0 ++ (encL (fsR x) ++ [hardR x]))
def flatR : List S44 → List Int
 | [] => []
 | x :: t => encR x ++ flatR t
def putR (l : List S44) : List Int := if l.all goodR = true then summedL (encI l.length ++ flatR l) else []
theorem goodR_bd {x : S44} (h : goodR x = true) : (0 ≤ x.f1 ∧ x.f1 ≤ 1000000) ∧ (0 ≤ x.f2 ∧ x.f2 ≤ 1000000) ∧ (0 ≤ x.f3 ∧ x.f3 ≤ 1000000) ∧ (0 ≤ x.f4 ∧ x.f4 ≤ 1000000) ∧ (0 ≤ x.f5 ∧ x.f5 ≤ 1000000) ∧ (0 ≤ x.f6 ∧ x.f6 ≤ 1000000) := by
 unfold goodR goodJB at h
 rw [Bool.and_eq_true] at h
 have := of_decide_eq_true h.2
 omega
theorem putgrp (W wr : World) (S : Nat → Prop) (u : Value) (b : List Int) (v : Int) (h0 : 0 ≤ v) (h1 : v < 268435456) (hl : b.length < 900000000) (hB : Below W.heap.size W wr) (HO : Kd.R (Kd.int .u8) 5 wr W.heap.size S u b) :
  Calls Tryd.prog 33 #[u, .int .i64 v] wr fun e w' => ∃ A c, e = .returned (.slice A (b ++ encI v).length c) ∧ Kd.R (Kd.int .u8) 5 w' W.heap.size (fun _ => True) (.slice A (b ++ encI v).length c) (b ++ encI v) ∧ Below W.heap.size W w' := by
 refine (tocsinref8_group.calls 5 S u b v _ W wr hB HO (grpI v h0 h1 b hl)).mono ?_
 rintro e w' ⟨v0, rfl, ho, hb, hk⟩
 obtain ⟨A, c, rfl⟩ := Kd.R_slice ho
 exact ⟨A, c, rfl, Kd.R_mono ho (fun _ _ => trivial), hb⟩
set_option maxHeartbeats 8000000
set_option maxRecDepth 100000
theorem rput_c (A : Option Addr) (c : Nat) (l : List S44) (W : World) (hT : Tab W) (hr : Kd.C k44 W A l.length l) (hc : l.length ≤ c) (hl : l.length ≤ 200) (hn : ∀ x ∈ l, x.f0.size ≤ 1000) :
  Calls Tryd.prog 17 #[.slice A l.length c] W fun e w' => ∃ v0_ : Value, e = .returned v0_ ∧ Kd.R (Kd.int .u8) 5 w' W.heap.size (fun _ => True) v0_ (putR l) ∧ Below W.heap.size W w' := by
 have HB := Aside0.mk (Below.refl W.heap.size W)
 have CA := Aside0.mk (tocsinref8_All.calls (l.length + 1) A c l (l.all goodR) W hT hr hc (by rw [All_is l (fun x hx => by have := hn x hx; omega) (by omega), decide_eq_true hl, Bool.and_true]))
 have HR := Aside0.mk hr
 have HN := Aside0.mk hn
 unfold putR
 cases hg : l.all goodR
 ·rw [hg] at CA
  rw [if_neg (by decide)]
  clear hg hr hn hT
  go_enter Tryd.func17, Tryd.ntmps17
  go_wp2_with (first | (go_at_call 32; (with_reducible refine (CA.out).mono ?_); rintro e w7 ⟨rfl, hb⟩; have n0_ := Aside0.mk (below_step (by repeat (first | (with_reducible first | exact HB.out | apply below_alloc | apply pw_below_drewN | apply below_drew1) | exact HB.out)) hb); clear HB; have HB := n0_; clear n0_ hb))
  go_ret
  exact ⟨_, rfl, Kd.R_nil _ _ _ _ _, HB.out⟩
 rw [hg] at CA
 rw [if_pos rfl]
 have HGd := Aside0.mk (fun x (hx : x ∈ l) => goodR_bd (List.all_eq_true.1 hg x hx))
 have CN0 := Aside0.mk (fun (w : World) (hB : Below W.heap.size W w) => putgrp W w (fun _ => True) (.slice none 0 0) [] (l.length : Int) (by omega) (by omega) (by decide) hB (Kd.R_nil _ _ _ _ _))
 have HF0 : Aside0 (encI (l.length : Int) ++ flatR l = encI (l.length : Int) ++ flatR (l.drop 0)) := ⟨rfl⟩
 have HL0 : Aside0 ((encI (l.length : Int)).length ≤ 4) := ⟨encI_len (by omega) (by omega)⟩
 clear hg hr hn hT
 generalize encI (l.length : Int) = e0 at CN0 HF0 HL0 ⊢
 generalize hfl : e0 ++ flatR l = full at HF0 ⊢
 clear hfl
 go_enter Tryd.func17, Tryd.ntmps17
 go_wp2_with (first | (go_at_call 32; (with_reducible refine (CA.out).mono ?_); rintro e w7 ⟨rfl, hb⟩; have n0_ := Aside0.mk (below_step (by repeat (first | (with_reducible first | exact HB.out | apply below_alloc | apply pw_below_drewN | apply below_drew1) | exact HB.out)) hb); clear HB; have HB := n0_; clear n0_ hb) | (go_at_call 33; (with_reducible refine (CN0.out _ HB.out).mono ?_); rintro e w8 ⟨A3, c3, rfl, ho, hb⟩; have HO : Aside0 (Kd.R (Kd.int .u8) 5 w8 W.heap.size (fun _ => True) (.slice A3 e0.length c3) e0) := ⟨ho⟩; have n0_ := Aside0.mk hb; clear HB ho hb; have HB := n0_; clear n0_))
 go_loopg [3, 4] l.length (fun f v3 v4 wr => ∃ (i : Int) (b : List Int), v4 = .int .i64 i ∧ 0 ≤ i ∧ i + f = l.length ∧ Aside0 (Kd.R (Kd.int .u8) 5 wr W.heap.size (fun _ => True) v3 b) ∧ Aside0 (Below W.heap.size W wr) ∧ Aside0 (full = b ++ flatR (l.drop i.toNat)) ∧ Aside0 ((b.length : Int) ≤ 3000 * i + 10))
 case atStart => exact ⟨0, e0, rfl, by omega, by omega, HO, HB, HF0, ⟨by have := HL0.out; omega⟩⟩
 case round =>
  clear HO HB HF0 HL0
  obtain ⟨i, b, rfl, hi0, hil, HO, HB, HF, HL⟩ := hrel
  obtain ⟨A3, c3, rfl⟩ := Kd.R_slice HO.out
  by_cases hlt : i < l.length
  ·obtain ⟨f, rfl⟩ : ∃ f, gk = f + 1 := ⟨gk - 1, by omega⟩
   obtain ⟨a, rfl, q0, q1, q2, q3, q4, q5, q6, q7⟩ := at_T44 (Kd.C_below HR.out HB.out) i (by omega) (by omega)
   have hmem : rd_T44 l i ∈ l := by
    unfold rd_T44
    rw [List.getD_eq_getElem?_getD, List.getElem?_eq_getElem (by omega)]
    exact List.getElem_mem _
   have hdrop : l.drop i.toNat = rd_T44 l i :: l.drop (i.toNat + 1) := by
    rw [List.drop_eq_getElem_cons (by omega)]
    congr 1
    unfold rd_T44
    rw [List.getD_eq_getElem?_getD, List.getElem?_eq_getElem (by omega)]; rfl
   have hb1 := HGd.out _ hmem
   have hb2 := HN.out _ hmem
   have hF := HF.out
   rw [hdrop] at hF
   clear HF hdrop hmem
   generalize rd_T44 l i = x at *
   have HF2 : Aside0 (full = (b ++ encR x) ++ flatR (l.drop (i + 1).toNat)) := ⟨by
    rw [hF, show (i + 1).toNat = i.toNat + 1 by omega, List.append_assoc]; rfl⟩
   have HG := Aside0.mk hb1
   have HZ := Aside0.mk hb2
   have hz4 := encI_len (v := x.f0.size) (by omega) (by omega)
   have hg1 := encI_len (v := x.f1) (by omega) (by omega)
   have hg2 := encI_len (v := x.f2) (by omega) (by omega)
   have hg3 := encI_len (v := x.f3) (by omega) (by omega)
   have hg4 := encI_len (v := x.f4) (by omega) (by omega)
   have hg5 := encI_len (v := x.f5) (by omega) (by omega)
   have hg6 := encI_len (v := x.f6) (by omega) (by omega)
   obtain ⟨b1, hb1'⟩ : ∃ b1, b1 = b ++ encI x.f0.size := ⟨_, rfl⟩
   have HL1 : Aside0 ((b1.length : Int) ≤ 3000 * i + 14) := ⟨by have := HL.out; rw [hb1', List.length_append]; omega⟩
   obtain ⟨b2, hb2'⟩ : ∃ b2, b2 = b1 ++ bytesOf x.f0 := ⟨_, rfl⟩
   have HL2 : Aside0 ((b2.length : Int) ≤ 3000 * i + 1014) := ⟨by have := HL1.out; rw [hb2', List.length_append, bytesOf_length]; omega⟩
   obtain ⟨d1, hd1⟩ : ∃ d1, d1 = b2 ++ encI x.f1 := ⟨_, rfl⟩
   have HLd1 : Aside0 ((d1.length : Int) ≤ 3000 * i + 1018) := ⟨by have := HL2.out; rw [hd1, List.length_append]; omega⟩
   obtain ⟨d2, hd2⟩ : ∃ d2, d2 = d1 ++ encI x.f2 := ⟨_, rfl⟩
   have HLd2 : Aside0 ((d2.length : Int) ≤ 3000 * i + 1022) := ⟨by have := HLd1.out; rw [hd2, List.length_append]; omega⟩
   obtain ⟨d3, hd3⟩ : ∃ d3, d3 = d2 ++ encI x.f3 := ⟨_, rfl⟩
   have HLd3 : Aside0 ((d3.length : Int) ≤ 3000 * i + 1026) := ⟨by have := HLd2.out; rw [hd3, List.length_append]; omega⟩
   obtain ⟨d4, hd4⟩ : ∃ d4, d4 = d3 ++ encI x.f4 := ⟨_, rfl⟩
   have HLd4 : Aside0 ((d4.length : Int) ≤ 3000 * i + 1030) := ⟨by have := HLd3.out; rw [hd4, List.length_append]; omega⟩
   obtain ⟨d5, hd5⟩ : ∃ d5, d5 = d4 ++ encI x.f5 := ⟨_, rfl⟩
   have HLd5 : Aside0 ((d5.length : Int) ≤ 3000 * i + 1034) := ⟨by have := HLd4.out; rw [hd5, List.length_append]; omega⟩
   obtain ⟨d6, hd6⟩ : ∃ d6, d6 = d5 ++ encI x.f6 := ⟨_, rfl⟩
   have HLd6 : Aside0 ((d6.length : Int) ≤ 3000 * i + 1038) := ⟨by have := HLd5.out; rw [hd6, List.length_append]; omega⟩
   have HE6 : Aside0 (b ++ encR x = d6 ++ [hardR x]) := ⟨by
    rw [hd6, hd5, hd4, hd3, hd2, hd1, hb2', hb1']
    unfold encR fsR
    simp only [encL, List.append_assoc, List.append_nil]⟩
   have HB1 := Aside0.mk hb1'
   have HB2 := Aside0.mk hb2'
   have HBd1 := Aside0.mk hd1
   have HBd2 := Aside0.mk hd2
   have HBd3 := Aside0.mk hd3
   have HBd4 := Aside0.mk hd4
   have HBd5 := Aside0.mk hd5
   have HBd6 := Aside0.mk hd6
   clear hF hb1 hb2 hz4 hg1 hg2 hg3 hg4 hg5 hg6 hb1' hb2' hd1 hd2 hd3 hd4 hd5 hd6
   go_upto_region 8 with (fail)
   have HP : Aside0 (PJ W (wr.alloc (.cells #[.string x.f0, .int .i64 x.f1, .int .i64 x.f2, .int .i64 x.f3, .int .i64 x.f4, .int .i64 x.f5, .int .i64 x.f6, .bool x.f7] 44)) wr.heap.size wr.heap.size #[.string x.f0, .int .i64 x.f1, .int .i64 x.f2, .int .i64 x.f3, .int .i64 x.f4, .int .i64 x.f5, .int .i64 x.f6, .bool x.f7] #[.string x.f0, .int .i64 x.f1, .int .i64 x.f2, .int .i64 x.f3, .int .i64 x.f4, .int .i64 x.f5, .int .i64 x.f6, .bool x.f7] 44 44 (.slice A3 b.length c3) b) := ⟨Kd.R_alloc HO.out _, below_alloc HB.out _, blk_new _ _, blk_new _ _⟩
   clear HO HB q0 q1 q2 q3 q4 q5 q6 q7
   generalize wr.alloc (.cells #[.string x.f0, .int .i64 x.f1, .int .i64 x.f2, .int .i64 x.f3, .int .i64 x.f4, .int .i64 x.f5, .int .i64 x.f6, .bool x.f7] 44) = Wd at HP ⊢
   generalize wr.heap.size = J at HP ⊢
   have c0 : Wd.cell? ⟨J, 0, none⟩ = some (.string x.f0) := (blk_cell HP.out.jb 0).trans rfl
   refine start_ (n := 9) (S := fun w' => w'.cell? ⟨J, 0, none⟩ = some (.string x.f0)) (ds := []) #[false, false, false, false, false, false, false, false, false] (by kernel_rfl) rfl rfl (c0) (fun hHeld => ?_)
   have HPd := Aside0.mk HP.out.drew
   clear HP c0
   generalize Wd.drew = We at HPd hHeld ⊢
   refine pure_ (i := 0) (N := some 22) (v := ?_) (a' := ?_) #[true, false, false, false, false, false, false, false, false] rfl rfl (by kernel_rfl) (fun _ _ _ h => h) (Or.inl ⟨by rfl, ?_⟩) ?_ ?_
   rotate_left
   ·intro w'
    go_simp
    with_reducible rfl
   rotate_left
   ·simp only [Act.put, List.setIfInBounds_toArray, List.set_cons_zero, List.set_cons_succ, i64_w, i32_w]
    rfl
   refine pure_ (i := 1) (N := some 23) (v := ?_) (a' := ?_) #[true, true, false, false, false, false, false, false, false] rfl rfl (by kernel_rfl) (fun _ _ _ h => h) (Or.inl ⟨by rfl, ?_⟩) ?_ ?_
   rotate_left
   ·intro w'
    go_simp
    with_reducible rfl
   rotate_left
   ·simp only [Act.put, List.setIfInBounds_toArray, List.set_cons_zero, List.set_cons_succ, i64_w, i32_w]
    rfl
   refine pure_ (i := 5) (N := some 27) (v := ?_) (a' := ?_) #[true, true, false, false, false, true, false, false, false] rfl rfl (by kernel_rfl) (fun _ _ _ h => h) (Or.inl ⟨by rfl, ?_⟩) ?_ ?_
   rotate_left
   ·intro w'
    go_simp
    with_reducible rfl
   rotate_left
   ·simp only [Act.put, List.setIfInBounds_toArray, List.set_cons_zero, List.set_cons_succ, i64_w, i32_w]
    rfl
   refine take_ (i := 2) (N := some 24) (v := ?_) (a' := ?_) #[true, true, true, false, false, true, false, false, false] rfl rfl (by kernel_rfl) (fun _ _ _ h => h) (Or.inl ⟨by rfl, ?_⟩) hHeld ?_ ?_
   rotate_left
   ·intro w' s0
    go_simp
    with_reducible rfl
   rotate_left
   ·simp only [Act.put, List.setIfInBounds_toArray, List.set_cons_zero, List.set_cons_succ, i64_w, i32_w]
    rfl
   refine pure_ (i := 3) (N := some 25) (v := ?_) (a' := ?_) #[true, true, true, true, false, true, false, false, false] rfl rfl (by kernel_rfl) (fun _ _ _ h => h) (Or.inl ⟨by rfl, ?_⟩) ?_ ?_
   rotate_left
   ·intro w'
    go_simp
    with_reducible rfl
   rotate_left
   ·simp only [Act.put, List.setIfInBounds_toArray, List.set_cons_zero, List.set_cons_succ, i64_w, i32_w]
    rfl
   refine take_ (i := 6) (N := some 28) (v := ?_) (a' := ?_) #[true, true, true, true, false, true, true, false, false] rfl rfl (by kernel_rfl) (fun _ _ _ h => h) (Or.inl ⟨by rfl, ?_⟩) hHeld ?_ ?_
   rotate_left
   ·intro w' s0
    go_simp
    with_reducible rfl
   rotate_left
   ·simp only [Act.put, List.setIfInBounds_toArray, List.set_cons_zero, List.set_cons_succ, i64_w, i32_w]
    rfl
   refine one_ (i := 4) (N := some 26) #[true, true, true, true, true, true, true, false, false] rfl rfl (by kernel_rfl) (by decide) (fun K hK => ?_)
   refine goes_ Tryd.func33 (by kernel_rfl) rfl #[.slice A3 b.length c3, .int .i64 x.f0.size] (by rfl) rfl rfl (by simp only [List.map_toArray, List.map_cons, List.map_nil]; rfl) ?_
   with_reducible refine (HPd.out.grp (by decide) (by decide) (x.f0.size : Int) (by omega) (by have := HZ.out; omega) (by have := HL.out; omega) b1 HB1.out).mono ?_
   rintro e w3 ⟨A9, c9, rfl, hP⟩
   refine ⟨_, rfl, ?_⟩
   have HP9 := Aside0.mk hP
   clear hP
   refine hK.out _ _ ((blk_cell HP9.out.jb 0).trans rfl) (fun hHeld => ?_)
   clear hK K
   refine norm_ (a' := ?_) ?_ ?_
   rotate_left
   ·show Act.put _ (some 26) _ = _
    simp only [Act.put, List.setIfInBounds_toArray, List.set_cons_zero, List.set_cons_succ, i64_w, i32_w]
    rfl
   refine one_ (i := 7) (N := some 29) #[true, true, true, true, true, true, true, true, false] rfl rfl (by kernel_rfl) (by decide) (fun K hK => ?_)
   refine str_step HP9.out (by rfl) (some 29) rfl (.tmp 26) (.tmp 28) rfl x.f0 rfl rfl (by have h1 := HL1.out; have h2 := HZ.out; omega) (by decide) (by decide) b2 HB2.out ?_
   intro A10 c10 w4 hP
   have HP10 := Aside0.mk hP
   clear hP
   refine hK.out _ _ ((blk_cell HP10.out.jb 0).trans rfl) (fun hHeld => ?_)
   clear hK K
   refine norm_ (a' := ?_) ?_ ?_
   rotate_left
   ·show Act.put _ (some 29) _ = _
    simp only [Act.put, List.setIfInBounds_toArray, List.set_cons_zero, List.set_cons_succ, i64_w, i32_w]
    rfl
   refine pure_ (i := 8) (N := some 3) (v := ?_) (a' := ?_) #[true, true, true, true, true, true, true, true, true] rfl rfl (by kernel_rfl) (fun _ _ _ h => h) (Or.inl ⟨by rfl, ?_⟩) ?_ ?_
   rotate_left
   ·intro w'
    go_simp
    with_reducible rfl
   rotate_left
   ·simp only [Act.put, List.setIfInBounds_toArray, List.set_cons_zero, List.set_cons_succ, i64_w, i32_w]
    rfl
   refine done_ (by kernel_rfl) ?_
   clear hHeld
   have c1 : w4.cell? ⟨J, 1, none⟩ = some (.int .i64 x.f1) := (blk_cell HP10.out.jb 1).trans rfl
   have c2 : w4.cell? ⟨J, 2, none⟩ = some (.int .i64 x.f2) := (blk_cell HP10.out.jb 2).trans rfl
   have c3 : w4.cell? ⟨J, 3, none⟩ = some (.int .i64 x.f3) := (blk_cell HP10.out.jb 3).trans rfl
   go_upto_region 9 with (fail)
   refine start_ (n := 11) (S := fun w' => w'.cell? ⟨J, 1, none⟩ = some (.int .i64 x.f1) ∧ w'.cell? ⟨J, 2, none⟩ = some (.int .i64 x.f2) ∧ w'.cell? ⟨J, 3, none⟩ = some (.int .i64 x.f3)) (ds := []) #[false, false, false, false, false, false, false, false, false, false, false] (by kernel_rfl) rfl rfl ⟨c1, c2, c3⟩ (fun hHeld => ?_)
   have HQd := Aside0.mk HP10.out.drew
   clear HP10 c1 c2 c3
   generalize w4.drew = HQe at HQd hHeld ⊢
   refine pure_ (i := 0) (N := some 30) (v := ?_) (a' := ?_) #[true, false, false, false, false, false, false, false, false, false, false] rfl rfl (by kernel_rfl) (fun _ _ _ h => h) (Or.inl ⟨by rfl, ?_⟩) ?_ ?_
   rotate_left
   ·intro w'
    go_simp
    with_reducible rfl
   rotate_left
   ·simp only [Act.put, List.setIfInBounds_toArray, List.set_cons_zero, List.set_cons_succ, i64_w, i32_w]
    rfl
   refine pure_ (i := 1) (N := some 31) (v := ?_) (a' := ?_) #[true, true, false, false, false, false, false, false, false, false, false] rfl rfl (by kernel_rfl) (fun _ _ _ h => h) (Or.inl ⟨by rfl, ?_⟩) ?_ ?_
   rotate_left
   ·intro w'
    go_simp
    with_reducible rfl
   rotate_left
   ·simp only [Act.put, List.setIfInBounds_toArray, List.set_cons_zero, List.set_cons_succ, i64_w, i32_w]
    rfl
   refine pure_ (i := 4) (N := some 34) (v := ?_) (a' := ?_) #[true, true, false, false, true, false, false, false, false, false, false] rfl rfl (by kernel_rfl) (fun _ _ _ h => h) (Or.inl ⟨by rfl, ?_⟩) ?_ ?_
   rotate_left
   ·intro w'
    go_simp
    with_reducible rfl
   rotate_left
   ·simp only [Act.put, List.setIfInBounds_toArray, List.set_cons_zero, List.set_cons_succ, i64_w, i32_w]
    rfl
   refine pure_ (i := 7) (N := some 37) (v := ?_) (a' := ?_) #[true, true, false, false, true, false, false, true, false, false, false] rfl rfl (by kernel_rfl) (fun _ _ _ h => h) (Or.inl ⟨by rfl, ?_⟩) ?_ ?_
   rotate_left
   ·intro w'
    go_simp
    with_reducible rfl
   rotate_left
   ·simp only [Act.put, List.setIfInBounds_toArray, List.set_cons_zero, List.set_cons_succ, i64_w, i32_w]
    rfl
   refine take_ (i := 2) (N := some 32) (v := ?_) (a' := ?_) #[true, true, true, false, true, false, false, true, false, false, false] rfl rfl (by kernel_rfl) (fun _ _ _ h => h) (Or.inl ⟨by rfl, ?_⟩) hHeld ?_ ?_
   rotate_left
   ·rintro w' ⟨s0, s1, s2⟩
    go_simp
    with_reducible rfl
   rotate_left
   ·simp only [Act.put, List.setIfInBounds_toArray, List.set_cons_zero, List.set_cons_succ, i64_w, i32_w]
    rfl
   refine take_ (i := 5) (N := some 35) (v := ?_) (a' := ?_) #[true, true, true, false, true, true, false, true, false, false, false] rfl rfl (by kernel_rfl) (fun _ _ _ h => h) (Or.inl ⟨by rfl, ?_⟩) hHeld ?_ ?_
   rotate_left
   ·rintro w' ⟨s0, s1, s2⟩
    go_simp
    with_reducible rfl
   rotate_left
   ·simp only [Act.put, List.setIfInBounds_toArray, List.set_cons_zero, List.set_cons_succ, i64_w, i32_w]
    rfl
   refine take_ (i := 8) (N := some 38) (v := ?_) (a' := ?_) #[true, true, true, false, true, true, false, true, true, false, false] rfl rfl (by kernel_rfl) (fun _ _ _ h => h) (Or.inl ⟨by rfl, ?_⟩) hHeld ?_ ?_
   rotate_left
   ·rintro w' ⟨s0, s1, s2⟩
    go_simp
    with_reducible rfl
   rotate_left
   ·simp only [Act.put, List.setIfInBounds_toArray, List.set_cons_zero, List.set_cons_succ, i64_w, i32_w]
    rfl
   refine one_ (i := 3) (N := some 33) #[true, true, true, true, true, true, false, true, true, false, false] rfl rfl (by kernel_rfl) (by decide) (fun K hK => ?_)
   refine goes_ Tryd.func33 (by kernel_rfl) rfl #[.slice A10 b2.length c10, .int .i64 x.f1] (by rfl) rfl rfl (by simp only [List.map_toArray, List.map_cons, List.map_nil]; rfl) ?_
   with_reducible refine (HQd.out.grp (by decide) (by decide) x.f1 (by have := HG.out; omega) (by have := HG.out; omega) (by have := HL2.out; omega) d1 HBd1.out).mono ?_
   rintro e wHQ0 ⟨AHQ0, cHQ0, rfl, hP⟩
   refine ⟨_, rfl, ?_⟩
   have HQ0 := Aside0.mk hP
   clear hP
   refine hK.out _ _ ⟨(blk_cell HQ0.out.jb 1).trans rfl, (blk_cell HQ0.out.jb 2).trans rfl, (blk_cell HQ0.out.jb 3).trans rfl⟩ (fun hHeld => ?_)
   clear hK K
   refine norm_ (a' := ?_) ?_ ?_
   rotate_left
   ·show Act.put _ (some 33) _ = _
    simp only [Act.put, List.setIfInBounds_toArray, List.set_cons_zero, List.set_cons_succ, i64_w, i32_w]
    rfl
   refine one_ (i := 6) (N := some 36) #[true, true, true, true, true, true, true, true, true, false, false] rfl rfl (by kernel_rfl) (by decide) (fun K hK => ?_)
   refine goes_ Tryd.func33 (by kernel_rfl) rfl #[.slice AHQ0 d1.length cHQ0, .int .i64 x.f2] (by rfl) rfl rfl (by simp only [List.map_toArray, List.map_cons, List.map_nil]; rfl) ?_
   with_reducible refine (HQ0.out.grp (by decide) (by decide) x.f2 (by have := HG.out; omega) (by have := HG.out; omega) (by have := HLd1.out; omega) d2 HBd2.out).mono ?_
   rintro e wHQ1 ⟨AHQ1, cHQ1, rfl, hP⟩
   refine ⟨_, rfl, ?_⟩
   have HQ1 := Aside0.mk hP
   clear hP
   refine hK.out _ _ ⟨(blk_cell HQ1.out.jb 1).trans rfl, (blk_cell HQ1.out.jb 2).trans rfl, (blk_cell HQ1.out.jb 3).trans rfl⟩ (fun hHeld => ?_)
   clear hK K
   refine norm_ (a' := ?_) ?_ ?_
   rotate_left
   ·show Act.put _ (some 36) _ = _
    simp only [Act.put, List.setIfInBounds_toArray, List.set_cons_zero, List.set_cons_succ, i64_w, i32_w]
    rfl
   refine one_ (i := 9) (N := some 39) #[true, true, true, true, true, true, true, true, true, true, false] rfl rfl (by kernel_rfl) (by decide) (fun K hK => ?_)
   refine goes_ Tryd.func33 (by kernel_rfl) rfl #[.slice AHQ1 d2.length cHQ1, .int .i64 x.f3] (by rfl) rfl rfl (by simp only [List.map_toArray, List.map_cons, List.map_nil]; rfl) ?_
   with_reducible refine (HQ1.out.grp (by decide) (by decide) x.f3 (by have := HG.out; omega) (by have := HG.out; omega) (by have := HLd2.out; omega) d3 HBd3.out).mono ?_
   rintro e wHQ2 ⟨AHQ2, cHQ2, rfl, hP⟩
   refine ⟨_, rfl, ?_⟩
   have HQ2 := Aside0.mk hP
   clear hP
   refine hK.out _ _ ⟨(blk_cell HQ2.out.jb 1).trans rfl, (blk_cell HQ2.out.jb 2).trans rfl, (blk_cell HQ2.out.jb 3).trans rfl⟩ (fun hHeld => ?_)
   clear hK K
   refine norm_ (a' := ?_) ?_ ?_
   rotate_left
   ·show Act.put _ (some 39) _ = _
    simp only [Act.put, List.setIfInBounds_toArray, List.set_cons_zero, List.set_cons_succ, i64_w, i32_w]
    rfl
   refine pure_ (i := 10) (N := some 3) (v := ?_) (a' := ?_) #[true, true, true, true, true, true, true, true, true, true, true] rfl rfl (by kernel_rfl) (fun _ _ _ h => h) (Or.inl ⟨by rfl, ?_⟩) ?_ ?_
   rotate_left
   ·intro w'
    go_simp
    with_reducible rfl
   rotate_left
   ·simp only [Act.put, List.setIfInBounds_toArray, List.set_cons_zero, List.set_cons_succ, i64_w, i32_w]
    rfl
   refine done_ (by kernel_rfl) ?_
   clear hHeld
   have c4 : wHQ2.cell? ⟨J, 4, none⟩ = some (.int .i64 x.f4) := (blk_cell HQ2.out.jb 4).trans rfl
   have c5 : wHQ2.cell? ⟨J, 5, none⟩ = some (.int .i64 x.f5) := (blk_cell HQ2.out.jb 5).trans rfl
   have c6 : wHQ2.cell? ⟨J, 6, none⟩ = some (.int .i64 x.f6) := (blk_cell HQ2.out.jb 6).trans rfl
   go_upto_region 10 with (fail)
   refine start_ (n := 11) (S := fun w' => w'.cell? ⟨J, 4, none⟩ = some (.int .i64 x.f4) ∧ w'.cell? ⟨J, 5, none⟩ = some (.int .i64 x.f5) ∧ w'.cell? ⟨J, 6, none⟩ = some (.int .i64 x.f6)) (ds := []) #[false, false, false, false, false, false, false, false, false, false, false] (by kernel_rfl) rfl rfl ⟨c4, c5, c6⟩ (fun hHeld => ?_)
   have HRd := Aside0.mk HQ2.out.drew
   clear HQ2 c4 c5 c6
   generalize wHQ2.drew = HRe at HRd hHeld ⊢
   refine pure_ (i := 0) (N := some 40) (v := ?_) (a' := ?_) #[true, false, false, false, false, false, false, false, false, false, false] rfl rfl (by kernel_rfl) (fun _ _ _ h => h) (Or.inl ⟨by rfl, ?_⟩) ?_ ?_
   rotate_left
   ·intro w'
    go_simp
    with_reducible rfl
   rotate_left
   ·simp only [Act.put, List.setIfInBounds_toArray, List.set_cons_zero, List.set_cons_succ, i64_w, i32_w]
    rfl
   refine pure_ (i := 1) (N := some 41) (v := ?_) (a' := ?_) #[true, true, false, false, false, false, false, false, false, false, false] rfl rfl (by kernel_rfl) (fun _ _ _ h => h) (Or.inl ⟨by rfl, ?_⟩) ?_ ?_
   rotate_left
   ·intro w'
    go_simp
    with_reducible rfl
   rotate_left
   ·simp only [Act.put, List.setIfInBounds_toArray, List.set_cons_zero, List.set_cons_succ, i64_w, i32_w]
    rfl
   refine pure_ (i := 4) (N := some 44) (v := ?_) (a' := ?_) #[true, true, false, false, true, false, false, false, false, false, false] rfl rfl (by kernel_rfl) (fun _ _ _ h => h) (Or.inl ⟨by rfl, ?_⟩) ?_ ?_
   rotate_left
   ·intro w'
    go_simp
    with_reducible rfl
   rotate_left
   ·simp only [Act.put, List.setIfInBounds_toArray, List.set_cons_zero, List.set_cons_succ, i64_w, i32_w]
    rfl
   refine pure_ (i := 7) (N := some 47) (v := ?_) (a' := ?_) #[true, true, false, false, true, false, false, true, false, false, false] rfl rfl (by kernel_rfl) (fun _ _ _ h => h) (Or.inl ⟨by rfl, ?_⟩) ?_ ?_
   rotate_left
   ·intro w'
    go_simp
    with_reducible rfl
   rotate_left
   ·simp only [Act.put, List.setIfInBounds_toArray, List.set_cons_zero, List.set_cons_succ, i64_w, i32_w]
    rfl
   refine take_ (i := 2) (N := some 42) (v := ?_) (a' := ?_) #[true, true, true, false, true, false, false, true, false, false, false] rfl rfl (by kernel_rfl) (fun _ _ _ h => h) (Or.inl ⟨by rfl, ?_⟩) hHeld ?_ ?_
   rotate_left
   ·rintro w' ⟨s0, s1, s2⟩
    go_simp
    with_reducible rfl
   rotate_left
   ·simp only [Act.put, List.setIfInBounds_toArray, List.set_cons_zero, List.set_cons_succ, i64_w, i32_w]
    rfl
   refine take_ (i := 5) (N := some 45) (v := ?_) (a' := ?_) #[true, true, true, false, true, true, false, true, false, false, false] rfl rfl (by kernel_rfl) (fun _ _ _ h => h) (Or.inl ⟨by rfl, ?_⟩) hHeld ?_ ?_
   rotate_left
   ·rintro w' ⟨s0, s1, s2⟩
    go_simp
    with_reducible rfl
   rotate_left
   ·simp only [Act.put, List.setIfInBounds_toArray, List.set_cons_zero, List.set_cons_succ, i64_w, i32_w]
    rfl
   refine take_ (i := 8) (N := some 48) (v := ?_) (a' := ?_) #[true, true, true, false, true, true, false, true, true, false, false] rfl rfl (by kernel_rfl) (fun _ _ _ h => h) (Or.inl ⟨by rfl, ?_⟩) hHeld ?_ ?_
   rotate_left
   ·rintro w' ⟨s0, s1, s2⟩
    go_simp
    with_reducible rfl
   rotate_left
   ·simp only [Act.put, List.setIfInBounds_toArray, List.set_cons_zero, List.set_cons_succ, i64_w, i32_w]
    rfl
   refine one_ (i := 3) (N := some 43) #[true, true, true, true, true, true, false, true, true, false, false] rfl rfl (by kernel_rfl) (by decide) (fun K hK => ?_)
   refine goes_ Tryd.func33 (by kernel_rfl) rfl #[.slice AHQ2 d3.length cHQ2, .int .i64 x.f4] (by rfl) rfl rfl (by simp only [List.map_toArray, List.map_cons, List.map_nil]; rfl) ?_
   with_reducible refine (HRd.out.grp (by decide) (by decide) x.f4 (by have := HG.out; omega) (by have := HG.out; omega) (by have := HLd3.out; omega) d4 HBd4.out).mono ?_
   rintro e wHR0 ⟨AHR0, cHR0, rfl, hP⟩
   refine ⟨_, rfl, ?_⟩
   have HR0 := Aside0.mk hP
   clear hP
   refine hK.out _ _ ⟨(blk_cell HR0.out.jb 4).trans rfl, (blk_cell HR0.out.jb 5).trans rfl, (blk_cell HR0.out.jb 6).trans rfl⟩ (fun hHeld => ?_)
   clear hK K
   refine norm_ (a' := ?_) ?_ ?_
   rotate_left
   ·show Act.put _ (some 43) _ = _
    simp only [Act.put, List.setIfInBounds_toArray, List.set_cons_zero, List.set_cons_succ, i64_w, i32_w]
    rfl
   refine one_ (i := 6) (N := some 46) #[true, true, true, true, true, true, true, true, true, false, false] rfl rfl (by kernel_rfl) (by decide) (fun K hK => ?_)
   refine goes_ Tryd.func33 (by kernel_rfl) rfl #[.slice AHR0 d4.length cHR0, .int .i64 x.f5] (by rfl) rfl rfl (by simp only [List.map_toArray, List.map_cons, List.map_nil]; rfl) ?_
   with_reducible refine (HR0.out.grp (by decide) (by decide) x.f5 (by have := HG.out; omega) (by have := HG.out; omega) (by have := HLd4.out; omega) d5 HBd5.out).mono ?_
   rintro e wHR1 ⟨AHR1, cHR1, rfl, hP⟩
   refine ⟨_, rfl, ?_⟩
   have HR1 := Aside0.mk hP
   clear hP
   refine hK.out _ _ ⟨(blk_cell HR1.out.jb 4).trans rfl, (blk_cell HR1.out.jb 5).trans rfl, (blk_cell HR1.out.jb 6).trans rfl⟩ (fun hHeld => ?_)
   clear hK K
   refine norm_ (a' := ?_) ?_ ?_
   rotate_left
   ·show Act.put _ (some 46) _ = _
    simp only [Act.put, List.setIfInBounds_toArray, List.set_cons_zero, List.set_cons_succ, i64_w, i32_w]
    rfl
   refine one_ (i := 9) (N := some 49) #[true, true, true, true, true, true, true, true, true, true, false] rfl rfl (by kernel_rfl) (by decide) (fun K hK => ?_)
   refine goes_ Tryd.func33 (by kernel_rfl) rfl #[.slice AHR1 d5.length cHR1, .int .i64 x.f6] (by rfl) rfl rfl (by simp only [List.map_toArray, List.map_cons, List.map_nil]; rfl) ?_
   with_reducible refine (HR1.out.grp (by decide) (by decide) x.f6 (by have := HG.out; omega) (by have := HG.out; omega) (by have := HLd5.out; omega) d6 HBd6.out).mono ?_
   rintro e wHR2 ⟨AHR2, cHR2, rfl, hP⟩
   refine ⟨_, rfl, ?_⟩
   have HR2 := Aside0.mk hP
   clear hP
   refine hK.out _ _ ⟨(blk_cell HR2.out.jb 4).trans rfl, (blk_cell HR2.out.jb 5).trans rfl, (blk_cell HR2.out.jb 6).trans rfl⟩ (fun hHeld => ?_)
   clear hK K
   refine norm_ (a' := ?_) ?_ ?_
   rotate_left
   ·show Act.put _ (some 49) _ = _
    simp only [Act.put, List.setIfInBounds_toArray, List.set_cons_zero, List.set_cons_succ, i64_w, i32_w]
    rfl
   refine pure_ (i := 10) (N := some 3) (v := ?_) (a' := ?_) #[true, true, true, true, true, true, true, true, true, true, true] rfl rfl (by kernel_rfl) (fun _ _ _ h => h) (Or.inl ⟨by rfl, ?_⟩) ?_ ?_
   rotate_left
   ·intro w'
    go_simp
    with_reducible rfl
   rotate_left
   ·simp only [Act.put, List.setIfInBounds_toArray, List.set_cons_zero, List.set_cons_succ, i64_w, i32_w]
    rfl
   refine done_ (by kernel_rfl) ?_
   clear hHeld
   have hcz7 : wHR2.cell? ⟨J, 7, none⟩ = some (.bool x.f7) := (blk_cell HR2.out.jb 7).trans rfl
   have HP := HR2
   clear HR0 HR1 HR2 HQ0 HQ1 HPd HP9 HQd HRd
   cases hx7 : x.f7
   ·rw [hx7] at hcz7
    have HH : Aside0 (hardR x = 0) := ⟨by unfold hardR; rw [hx7]; rfl⟩
    clear hx7
    go_wp2_with (first | ((with_reducible refine gate_builtin (b := .append) (xs := #[.tmp 55, .tmp 56]) rfl ?_); at_builtin; refine Kd.R_append (Kd.int .u8) (w0 := W) W.heap.size rfl (.tmp 55) (.tmp 56) 27 5 (.int .u8 0) 1 rfl Tryd.underlying27 infoByte rfl (by decide) (by omega) (.slice AHR2 d6.length cHR2) d6 0 [.int .u8 0] (fun _ => True) (fun _ => False) rfl rfl rfl (fun _ hk => hk.elim) (fun _ _ => trivial) HP.out.ro HP.out.bl (below_size HP.out.bl) (by have := HLd6.out; omega) ?_; intro v1 w1 ho hb hg hat; have HO2 := Aside0.mk ho; have HB2_ := Aside0.mk hb; clear ho hb hg hat))
    go_roundg f
    case measure => omega
    case rel => exact ⟨i + 1, d6 ++ [0], by go_num, by omega, by omega, HO2, HB2_, ⟨by rw [HF2.out, HE6.out, HH.out]⟩, ⟨by have := HLd6.out; rw [List.length_append]; simp only [List.length_cons, List.length_nil]; omega⟩⟩
   ·rw [hx7] at hcz7
    have HH : Aside0 (hardR x = 1) := ⟨by unfold hardR; rw [hx7]; rfl⟩
    clear hx7
    go_wp2_with (first | ((with_reducible refine gate_builtin (b := .append) (xs := #[.tmp 52, .tmp 53]) rfl ?_); at_builtin; refine Kd.R_append (Kd.int .u8) (w0 := W) W.heap.size rfl (.tmp 52) (.tmp 53) 27 5 (.int .u8 0) 1 rfl Tryd.underlying27 infoByte rfl (by decide) (by omega) (.slice AHR2 d6.length cHR2) d6 1 [.int .u8 1] (fun _ => True) (fun _ => False) rfl rfl rfl (fun _ hk => hk.elim) (fun _ _ => trivial) HP.out.ro HP.out.bl (below_size HP.out.bl) (by have := HLd6.out; omega) ?_; intro v1 w1 ho hb hg hat; have HO2 := Aside0.mk ho; have HB2_ := Aside0.mk hb; clear ho hb hg hat))
    go_roundg f
    case measure => omega
    case rel => exact ⟨i + 1, d6 ++ [1], by go_num, by omega, by omega, HO2, HB2_, ⟨by rw [HF2.out, HE6.out, HH.out]⟩, ⟨by have := HLd6.out; rw [List.length_append]; simp only [List.length_cons, List.length_nil]; omega⟩⟩
  ·have hF := HF.out
   rw [List.drop_of_length_le (by omega)] at hF
   have HF2 : Aside0 (full = b) := ⟨by rw [hF]; exact List.append_nil _⟩
   have hlb : b.length ≤ 1000000 := by have := HL.out; omega
   have HS := Aside0.mk (closed_is b hlb (b.length + 1) (Nat.lt_succ_self _))
   clear hF HF hlb
   go_wp2_with (first | (go_at_call 34; (with_reducible refine (tocsinref8_closed.calls (b.length + 1) (fun _ => True) _ b (summedL b) W _ HB.out HO.out HS.out).mono ?_); rintro e w8 ⟨v0, rfl, ho, hb, hk⟩))
   go_ret
   exact ⟨_, rfl, by rw [HF2.out]; exact Kd.R_mono ho (fun _ _ => trivial), hb⟩

end Go.Proofs.YtpgfecaomdioeaaDoor.PCt
