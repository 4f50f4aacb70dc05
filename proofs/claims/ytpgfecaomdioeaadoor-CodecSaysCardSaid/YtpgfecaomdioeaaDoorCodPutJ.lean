/- The contract of codec.PutJobs. -/
-- slim
import Derived.Test.YtpgfecaomdioeaaDoorPCtx2
import Derived.Test.YtpgfecaomdioeaaDoorPCtx3
import Derived.Test.YtpgfecaomdioeaaDoorCodPj
namespace Go.Proofs.YtpgfecaomdioeaaDoor.PCt
open Go.RowKit Go.Proofs.YtpgfecaomdioeaaDoor.PCt Go.Proofs.YtpgfecaomdioeaaDoorW.PrintWords Go.Proofs.YtpgfecaomdioeaaDoorW.PrintLast Go.Proofs.YtpgfecaomdioeaaDoorW.PrintMore 
set_option linter.unusedVariables false
set_option linter.unusedSimpArgs false

set_option maxHeartbeats 8000000
set_option maxRecDepth 100000
theorem putj_c (A : Option Addr) (c : Nat) (l : List S48) (W : World) (hT : Tab W) (hr : Kd.C k48 W A l.length l) (hc : l.length ≤ c) (hl : l.length ≤ 200) (hn : ∀ x ∈ l, x.f0.size ≤ 1000) :
  Calls Tryd.prog 9 #[.slice A l.length c] W fun e w' => ∃ v0_ : Value, e = .returned v0_ ∧ Kd.R (Kd.int .u8) 5 w' W.heap.size (fun _ => True) v0_ (putJ l) ∧ Below W.heap.size W w' := by
 have HB := Aside0.mk (Below.refl W.heap.size W)
 have CA := Aside0.mk (job_All.calls A c l (l.all goodJ) W hT hr hc (all_is l hl (fun x hx => by have := hn x hx; omega)))
 have HR := Aside0.mk hr
 have HN := Aside0.mk hn
 unfold putJ
 cases hg : l.all goodJ
 ·rw [hg] at CA
  rw [if_neg (by decide)]
  clear hg hr hn hT
  go_enter Tryd.func9, Tryd.ntmps9
  go_wp2_with (first | (go_at_call 20; (with_reducible refine (CA.out).mono ?_); rintro e w7 ⟨rfl, hb⟩; have n0_ := Aside0.mk (below_step (by repeat (first | (with_reducible first | exact HB.out | apply below_alloc | apply pw_below_drewN | apply below_drew1) | exact HB.out)) hb); clear HB; have HB := n0_; clear n0_ hb))
  go_ret
  exact ⟨_, rfl, Kd.R_nil _ _ _ _ _, HB.out⟩
 rw [hg] at CA
 rw [if_pos rfl]
 have HGd := Aside0.mk (fun x (hx : x ∈ l) => goodJ_bd (List.all_eq_true.1 hg x hx))
 have CN0 := Aside0.mk (fun (w : World) (hB : Below W.heap.size W w) => putnum W w (fun _ => True) (.slice none 0 0) [] (l.length : Int) (by omega) (by omega) (by decide) hB (Kd.R_nil _ _ _ _ _))
 have HF0 : Aside0 (encI (l.length : Int) ++ flatJ l = encI (l.length : Int) ++ flatJ (l.drop 0)) := ⟨rfl⟩
 have HL0 : Aside0 ((encI (l.length : Int)).length ≤ 4) := ⟨encI_len (by omega) (by omega)⟩
 clear hg hr hn hT
 generalize encI (l.length : Int) = e0 at CN0 HF0 HL0 ⊢
 generalize hfl : e0 ++ flatJ l = full at HF0 ⊢
 clear hfl
 go_enter Tryd.func9, Tryd.ntmps9
 go_wp2_with (first | (go_at_call 20; (with_reducible refine (CA.out).mono ?_); rintro e w7 ⟨rfl, hb⟩; have n0_ := Aside0.mk (below_step (by repeat (first | (with_reducible first | exact HB.out | apply below_alloc | apply pw_below_drewN | apply below_drew1) | exact HB.out)) hb); clear HB; have HB := n0_; clear n0_ hb) | (go_at_call 26; (with_reducible refine (CN0.out _ HB.out).mono ?_); rintro e w8 ⟨A3, c3, rfl, ho, hb, hk⟩; have HO : Aside0 (Kd.R (Kd.int .u8) 5 w8 W.heap.size (fun _ => True) (.slice A3 e0.length c3) e0) := ⟨ho⟩; have n0_ := Aside0.mk hb; clear HB ho hk hb; have HB := n0_; clear n0_))
 go_loopg [3, 5, 7, 8, 17, 43] l.length (fun f v3 v5 v7 v8 v17 v43 wr => ∃ (i : Int) (b : List Int), v17 = .int .i64 i ∧ 0 ≤ i ∧ i + f = l.length ∧ Aside0 (Kd.R (Kd.int .u8) 5 wr W.heap.size (fun _ => True) v3 b) ∧ Aside0 (Below W.heap.size W wr) ∧ Aside0 (full = b ++ flatJ (l.drop i.toNat)) ∧ Aside0 ((b.length : Int) ≤ 3000 * i + 10))
 case atStart => exact ⟨0, e0, rfl, by omega, by omega, HO, HB, HF0, ⟨by have := HL0.out; omega⟩⟩
 case round =>
  clear HO HB HF0 HL0
  obtain ⟨i, b, rfl, hi0, hil, HO, HB, HF, HL⟩ := hrel
  obtain ⟨A3, c3, rfl⟩ := Kd.R_slice HO.out
  by_cases hlt : i < l.length
  ·obtain ⟨f, rfl⟩ : ∃ f, gk = f + 1 := ⟨gk - 1, by omega⟩
   obtain ⟨a, rfl, q0, q1, q2, q3, q4, q5, q6, q7⟩ := at_T48 (Kd.C_below HR.out HB.out) i (by omega) (by omega)
   have hmem : rd_T48 l i ∈ l := by
    unfold rd_T48
    rw [List.getD_eq_getElem?_getD, List.getElem?_eq_getElem (by omega)]
    exact List.getElem_mem _
   have hdrop : l.drop i.toNat = rd_T48 l i :: l.drop (i.toNat + 1) := by
    rw [List.drop_eq_getElem_cons (by omega)]
    congr 1
    unfold rd_T48
    rw [List.getD_eq_getElem?_getD, List.getElem?_eq_getElem (by omega)]; rfl
   have hb1 := HGd.out _ hmem
   have hb2 := HN.out _ hmem
   have hF := HF.out
   rw [hdrop] at hF
   clear HF hdrop hmem
   generalize rd_T48 l i = x at *
   have HF2 : Aside0 (full = ((b ++ encI x.f0.size) ++ bytesOf x.f0) ++ (encL ((fsJ x).drop 0) ++ ([hardJ x] ++ flatJ (l.drop (i + 1).toNat)))) := ⟨by
    rw [hF, show (i + 1).toNat = i.toNat + 1 by omega]
    show b ++ (encI x.f0.size ++ (bytesOf x.f0 ++ (numsJ x ++ [hardJ x])) ++ flatJ _) = _
    simp only [List.append_assoc]
    rfl⟩
   have HG := Aside0.mk hb1
   have HZ := Aside0.mk hb2
   have hz4 := encI_len (v := x.f0.size) (by omega) (by omega)
   obtain ⟨b1, hb1'⟩ : ∃ b1, b1 = b ++ encI x.f0.size := ⟨_, rfl⟩
   have HL1 : Aside0 ((b1.length : Int) ≤ 3000 * i + 14) := ⟨by have := HL.out; rw [hb1', List.length_append]; omega⟩
   rw [← hb1'] at HF2
   obtain ⟨b2, hb2'⟩ : ∃ b2, b2 = b1 ++ bytesOf x.f0 := ⟨_, rfl⟩
   rw [← hb2'] at HF2
   have HL2 : Aside0 ((b2.length : Int) ≤ 3000 * i + 1014) := ⟨by have := HL1.out; rw [hb2', List.length_append, bytesOf_length]; omega⟩
   have HB2 := Aside0.mk hb2'
   have HB1 := Aside0.mk hb1'
   clear hF hb1 hb2 hz4 hb1' hb2'
   go_upto_region 7 with (fail)
   have HP : Aside0 (PJ W (wr.alloc (.cells #[.string x.f0, .int .i64 x.f1, .int .i64 x.f2, .int .i64 x.f3, .int .i64 x.f4, .int .i64 x.f5, .int .i64 x.f6, .bool x.f7] 48)) wr.heap.size wr.heap.size #[.string x.f0, .int .i64 x.f1, .int .i64 x.f2, .int .i64 x.f3, .int .i64 x.f4, .int .i64 x.f5, .int .i64 x.f6, .bool x.f7] #[.string x.f0, .int .i64 x.f1, .int .i64 x.f2, .int .i64 x.f3, .int .i64 x.f4, .int .i64 x.f5, .int .i64 x.f6, .bool x.f7] 48 48 (.slice A3 b.length c3) b) := ⟨Kd.R_alloc HO.out _, below_alloc HB.out _, blk_new _ _, blk_new _ _⟩
   clear HO HB q0 q1 q2 q3 q4 q5 q6 q7
   generalize wr.alloc (.cells #[.string x.f0, .int .i64 x.f1, .int .i64 x.f2, .int .i64 x.f3, .int .i64 x.f4, .int .i64 x.f5, .int .i64 x.f6, .bool x.f7] 48) = Wd at HP ⊢
   generalize wr.heap.size = J at HP ⊢
   have c0 : Wd.cell? ⟨J, 0, none⟩ = some (.string x.f0) := (blk_cell HP.out.jb 0).trans rfl
   refine start_ (n := 9) (S := fun w' => w'.cell? ⟨J, 0, none⟩ = some (.string x.f0)) (ds := []) #[false, false, false, false, false, false, false, false, false] (by kernel_rfl) rfl rfl (c0) (fun hHeld => ?_)
   have HPd := Aside0.mk HP.out.drew
   clear HP c0
   generalize Wd.drew = We at HPd hHeld ⊢
   refine pure_ (i := 0) (N := some 21) (v := ?_) (a' := ?_) #[true, false, false, false, false, false, false, false, false] rfl rfl (by kernel_rfl) (fun _ _ _ h => h) (Or.inl ⟨by rfl, ?_⟩) ?_ ?_
   rotate_left
   ·intro w'
    go_simp
    with_reducible rfl
   rotate_left
   ·simp only [Act.put, List.setIfInBounds_toArray, List.set_cons_zero, List.set_cons_succ, i64_w, i32_w]
    rfl
   refine pure_ (i := 1) (N := some 22) (v := ?_) (a' := ?_) #[true, true, false, false, false, false, false, false, false] rfl rfl (by kernel_rfl) (fun _ _ _ h => h) (Or.inl ⟨by rfl, ?_⟩) ?_ ?_
   rotate_left
   ·intro w'
    go_simp
    with_reducible rfl
   rotate_left
   ·simp only [Act.put, List.setIfInBounds_toArray, List.set_cons_zero, List.set_cons_succ, i64_w, i32_w]
    rfl
   refine pure_ (i := 5) (N := some 26) (v := ?_) (a' := ?_) #[true, true, false, false, false, true, false, false, false] rfl rfl (by kernel_rfl) (fun _ _ _ h => h) (Or.inl ⟨by rfl, ?_⟩) ?_ ?_
   rotate_left
   ·intro w'
    go_simp
    with_reducible rfl
   rotate_left
   ·simp only [Act.put, List.setIfInBounds_toArray, List.set_cons_zero, List.set_cons_succ, i64_w, i32_w]
    rfl
   refine take_ (i := 2) (N := some 23) (v := ?_) (a' := ?_) #[true, true, true, false, false, true, false, false, false] rfl rfl (by kernel_rfl) (fun _ _ _ h => h) (Or.inl ⟨by rfl, ?_⟩) hHeld ?_ ?_
   rotate_left
   ·intro w' s0
    go_simp
    with_reducible rfl
   rotate_left
   ·simp only [Act.put, List.setIfInBounds_toArray, List.set_cons_zero, List.set_cons_succ, i64_w, i32_w]
    rfl
   refine pure_ (i := 3) (N := some 24) (v := ?_) (a' := ?_) #[true, true, true, true, false, true, false, false, false] rfl rfl (by kernel_rfl) (fun _ _ _ h => h) (Or.inl ⟨by rfl, ?_⟩) ?_ ?_
   rotate_left
   ·intro w'
    go_simp
    with_reducible rfl
   rotate_left
   ·simp only [Act.put, List.setIfInBounds_toArray, List.set_cons_zero, List.set_cons_succ, i64_w, i32_w]
    rfl
   refine take_ (i := 6) (N := some 27) (v := ?_) (a' := ?_) #[true, true, true, true, false, true, true, false, false] rfl rfl (by kernel_rfl) (fun _ _ _ h => h) (Or.inl ⟨by rfl, ?_⟩) hHeld ?_ ?_
   rotate_left
   ·intro w' s0
    go_simp
    with_reducible rfl
   rotate_left
   ·simp only [Act.put, List.setIfInBounds_toArray, List.set_cons_zero, List.set_cons_succ, i64_w, i32_w]
    rfl
   refine one_ (i := 4) (N := some 25) #[true, true, true, true, true, true, true, false, false] rfl rfl (by kernel_rfl) (by decide) (fun K hK => ?_)
   refine goes_ Tryd.func26 (by kernel_rfl) rfl #[.slice A3 b.length c3, .int .i64 x.f0.size] (by rfl) rfl rfl (by simp only [List.map_toArray, List.map_cons, List.map_nil]; rfl) ?_
   with_reducible refine (HPd.out.num (by decide) (by decide) (x.f0.size : Int) (by omega) (by have := HZ.out; omega) (by have := HL.out; omega) b1 HB1.out).mono ?_
   rintro e w3 ⟨A9, c9, rfl, hP⟩
   refine ⟨_, rfl, ?_⟩
   have HP9 := Aside0.mk hP
   clear hP
   refine hK.out _ _ ((blk_cell HP9.out.jb 0).trans rfl) (fun hHeld => ?_)
   clear hK K
   refine norm_ (a' := ?_) ?_ ?_
   rotate_left
   ·show Act.put _ (some 25) _ = _
    simp only [Act.put, List.setIfInBounds_toArray, List.set_cons_zero, List.set_cons_succ, i64_w, i32_w]
    rfl
   refine one_ (i := 7) (N := some 28) #[true, true, true, true, true, true, true, true, false] rfl rfl (by kernel_rfl) (by decide) (fun K hK => ?_)
   refine str_step HP9.out (by rfl) (some 28) rfl (.tmp 25) (.tmp 27) rfl x.f0 rfl rfl (by have h1 := HL1.out; have h2 := HZ.out; omega) (by decide) (by decide) b2 HB2.out ?_
   intro A10 c10 w4 hP
   have HP10 := Aside0.mk hP
   clear hP
   refine hK.out _ _ ((blk_cell HP10.out.jb 0).trans rfl) (fun hHeld => ?_)
   clear hK K
   refine norm_ (a' := ?_) ?_ ?_
   rotate_left
   ·show Act.put _ (some 28) _ = _
    simp only [Act.put, List.setIfInBounds_toArray, List.set_cons_zero, List.set_cons_succ, i64_w, i32_w]
    rfl
   refine pure_ (i := 8) (N := some 3) (v := ?_) (a' := ?_) #[true, true, true, true, true, true, true, true, true] rfl rfl (by kernel_rfl) (fun _ _ _ h => h) (Or.inl ⟨by rfl, ?_⟩) ?_ ?_
   rotate_left
   ·intro w'
    go_simp
    with_reducible rfl
   rotate_left
   ·simp only [Act.put, List.setIfInBounds_toArray, List.set_cons_zero, List.set_cons_succ, i64_w, i32_w]
    rfl
   refine done_ (by kernel_rfl) ?_
   clear hHeld
   have hcz1 : w4.cell? ⟨J, 1, none⟩ = some (.int .i64 x.f1) := (blk_cell HP10.out.jb 1).trans rfl
   have hcz2 : w4.cell? ⟨J, 2, none⟩ = some (.int .i64 x.f2) := (blk_cell HP10.out.jb 2).trans rfl
   have hcz3 : w4.cell? ⟨J, 3, none⟩ = some (.int .i64 x.f3) := (blk_cell HP10.out.jb 3).trans rfl
   have hcz4 : w4.cell? ⟨J, 4, none⟩ = some (.int .i64 x.f4) := (blk_cell HP10.out.jb 4).trans rfl
   have hcz5 : w4.cell? ⟨J, 5, none⟩ = some (.int .i64 x.f5) := (blk_cell HP10.out.jb 5).trans rfl
   have hcz6 : w4.cell? ⟨J, 6, none⟩ = some (.int .i64 x.f6) := (blk_cell HP10.out.jb 6).trans rfl
   go_wp2
   have HP : Aside0 (PJ W (w4.alloc (.cells #[.int .i64 x.f1, .int .i64 x.f2, .int .i64 x.f3, .int .i64 x.f4, .int .i64 x.f5, .int .i64 x.f6] 3)) J w4.heap.size #[.string x.f0, .int .i64 x.f1, .int .i64 x.f2, .int .i64 x.f3, .int .i64 x.f4, .int .i64 x.f5, .int .i64 x.f6, .bool x.f7] #[.int .i64 x.f1, .int .i64 x.f2, .int .i64 x.f3, .int .i64 x.f4, .int .i64 x.f5, .int .i64 x.f6] 48 3 (.slice A10 b2.length c10) b2) := ⟨Kd.R_alloc HP10.out.ro _, below_alloc HP10.out.bl _, blk_alloc HP10.out.jb _, blk_new _ _⟩
   clear HP10 hcz1 hcz2 hcz3 hcz4 hcz5 hcz6 HPd HP9
   generalize w4.alloc (.cells #[.int .i64 x.f1, .int .i64 x.f2, .int .i64 x.f3, .int .i64 x.f4, .int .i64 x.f5, .int .i64 x.f6] 3) = Wp at HP ⊢
   generalize w4.heap.size = P at HP ⊢
   go_loopg [3, 7, 43] 6 (fun g v3 v7 v43 wr => ∃ (k : Int) (b' : List Int), v43 = .int .i64 k ∧ 0 ≤ k ∧ k + g = 6 ∧ Aside0 (PJ W wr J P #[.string x.f0, .int .i64 x.f1, .int .i64 x.f2, .int .i64 x.f3, .int .i64 x.f4, .int .i64 x.f5, .int .i64 x.f6, .bool x.f7] #[.int .i64 x.f1, .int .i64 x.f2, .int .i64 x.f3, .int .i64 x.f4, .int .i64 x.f5, .int .i64 x.f6] 48 3 v3 b') ∧ Aside0 (full = b' ++ (encL ((fsJ x).drop k.toNat) ++ ([hardJ x] ++ flatJ (l.drop (i + 1).toNat)))) ∧ Aside0 ((b'.length : Int) ≤ 3000 * i + 1014 + 4 * k))
   case atStart => exact ⟨0, b2, rfl, by omega, by omega, HP, HF2, ⟨by have := HL2.out; omega⟩⟩
   case round =>
    clear HP HF2 HL2 HL1 HL HB1 HB2
    obtain ⟨k, b', rfl, hk0, hk6, HP, HF, HL⟩ := hrel
    obtain ⟨A3, c3, rfl⟩ := Kd.R_slice HP.out.ro
    obtain ⟨rfl, rfl⟩ | ⟨rfl, rfl⟩ | ⟨rfl, rfl⟩ | ⟨rfl, rfl⟩ | ⟨rfl, rfl⟩ | ⟨rfl, rfl⟩ | ⟨rfl, rfl⟩ : (k = 0 ∧ gk = 6) ∨ (k = 1 ∧ gk = 5) ∨ (k = 2 ∧ gk = 4) ∨ (k = 3 ∧ gk = 3) ∨ (k = 4 ∧ gk = 2) ∨ (k = 5 ∧ gk = 1) ∨ (k = 6 ∧ gk = 0) := by omega
    ·have hcp : wr.cell? ⟨P, 0, none⟩ = some (.int .i64 x.f1) := (blk_cell HP.out.pb 0).trans rfl
     obtain ⟨b3, hb3⟩ : ∃ b3, b3 = b' ++ encI x.f1 := ⟨_, rfl⟩
     have HB3 := Aside0.mk hb3
     have HL3 : Aside0 ((b3.length : Int) ≤ 3000 * i + 1014 + 4 * 1) := ⟨by have h1 := HL.out; have h2 := encI_len (v := x.f1) (by have := HG.out; omega) (by have := HG.out; omega); rw [hb3, List.length_append]; omega⟩
     clear hk0 hk6 hb3
     go_wp2_with (first | (go_at_call 26; (with_reducible refine (HP.out.num (by decide) (by decide) x.f1 (by have := HG.out; omega) (by have := HG.out; omega) (by have := HL.out; omega) b3 HB3.out).mono ?_); rintro e w13 ⟨A13, c13, rfl, hP⟩; have n0_ := Aside0.mk hP; clear HP hP; have HP := n0_; clear n0_))
     go_roundg 5
     case measure => omega
     case rel => exact ⟨1, b3, by go_num, by omega, by omega, HP, ⟨by rw [HF.out, HB3.out, show encL ((fsJ x).drop (0 : Int).toNat) = encI x.f1 ++ encL ((fsJ x).drop (1 : Int).toNat) from rfl]; simp only [List.append_assoc]⟩, HL3⟩
    ·have hcp : wr.cell? ⟨P, 1, none⟩ = some (.int .i64 x.f2) := (blk_cell HP.out.pb 1).trans rfl
     obtain ⟨b3, hb3⟩ : ∃ b3, b3 = b' ++ encI x.f2 := ⟨_, rfl⟩
     have HB3 := Aside0.mk hb3
     have HL3 : Aside0 ((b3.length : Int) ≤ 3000 * i + 1014 + 4 * 2) := ⟨by have h1 := HL.out; have h2 := encI_len (v := x.f2) (by have := HG.out; omega) (by have := HG.out; omega); rw [hb3, List.length_append]; omega⟩
     clear hk0 hk6 hb3
     go_wp2_with (first | (go_at_call 26; (with_reducible refine (HP.out.num (by decide) (by decide) x.f2 (by have := HG.out; omega) (by have := HG.out; omega) (by have := HL.out; omega) b3 HB3.out).mono ?_); rintro e w13 ⟨A13, c13, rfl, hP⟩; have n0_ := Aside0.mk hP; clear HP hP; have HP := n0_; clear n0_))
     go_roundg 4
     case measure => omega
     case rel => exact ⟨2, b3, by go_num, by omega, by omega, HP, ⟨by rw [HF.out, HB3.out, show encL ((fsJ x).drop (1 : Int).toNat) = encI x.f2 ++ encL ((fsJ x).drop (2 : Int).toNat) from rfl]; simp only [List.append_assoc]⟩, HL3⟩
    ·have hcp : wr.cell? ⟨P, 2, none⟩ = some (.int .i64 x.f3) := (blk_cell HP.out.pb 2).trans rfl
     obtain ⟨b3, hb3⟩ : ∃ b3, b3 = b' ++ encI x.f3 := ⟨_, rfl⟩
     have HB3 := Aside0.mk hb3
     have HL3 : Aside0 ((b3.length : Int) ≤ 3000 * i + 1014 + 4 * 3) := ⟨by have h1 := HL.out; have h2 := encI_len (v := x.f3) (by have := HG.out; omega) (by have := HG.out; omega); rw [hb3, List.length_append]; omega⟩
     clear hk0 hk6 hb3
     go_wp2_with (first | (go_at_call 26; (with_reducible refine (HP.out.num (by decide) (by decide) x.f3 (by have := HG.out; omega) (by have := HG.out; omega) (by have := HL.out; omega) b3 HB3.out).mono ?_); rintro e w13 ⟨A13, c13, rfl, hP⟩; have n0_ := Aside0.mk hP; clear HP hP; have HP := n0_; clear n0_))
     go_roundg 3
     case measure => omega
     case rel => exact ⟨3, b3, by go_num, by omega, by omega, HP, ⟨by rw [HF.out, HB3.out, show encL ((fsJ x).drop (2 : Int).toNat) = encI x.f3 ++ encL ((fsJ x).drop (3 : Int).toNat) from rfl]; simp only [List.append_assoc]⟩, HL3⟩
    ·have hcp : wr.cell? ⟨P, 3, none⟩ = some (.int .i64 x.f4) := (blk_cell HP.out.pb 3).trans rfl
     obtain ⟨b3, hb3⟩ : ∃ b3, b3 = b' ++ encI x.f4 := ⟨_, rfl⟩
     have HB3 := Aside0.mk hb3
     have HL3 : Aside0 ((b3.length : Int) ≤ 3000 * i + 1014 + 4 * 4) := ⟨by have h1 := HL.out; have h2 := encI_len (v := x.f4) (by have := HG.out; omega) (by have := HG.out; omega); rw [hb3, List.length_append]; omega⟩
     clear hk0 hk6 hb3
     go_wp2_with (first | (go_at_call 26; (with_reducible refine (HP.out.num (by decide) (by decide) x.f4 (by have := HG.out; omega) (by have := HG.out; omega) (by have := HL.out; omega) b3 HB3.out).mono ?_); rintro e w13 ⟨A13, c13, rfl, hP⟩; have n0_ := Aside0.mk hP; clear HP hP; have HP := n0_; clear n0_))
     go_roundg 2
     case measure => omega
     case rel => exact ⟨4, b3, by go_num, by omega, by omega, HP, ⟨by rw [HF.out, HB3.out, show encL ((fsJ x).drop (3 : Int).toNat) = encI x.f4 ++ encL ((fsJ x).drop (4 : Int).toNat) from rfl]; simp only [List.append_assoc]⟩, HL3⟩
    ·have hcp : wr.cell? ⟨P, 4, none⟩ = some (.int .i64 x.f5) := (blk_cell HP.out.pb 4).trans rfl
     obtain ⟨b3, hb3⟩ : ∃ b3, b3 = b' ++ encI x.f5 := ⟨_, rfl⟩
     have HB3 := Aside0.mk hb3
     have HL3 : Aside0 ((b3.length : Int) ≤ 3000 * i + 1014 + 4 * 5) := ⟨by have h1 := HL.out; have h2 := encI_len (v := x.f5) (by have := HG.out; omega) (by have := HG.out; omega); rw [hb3, List.length_append]; omega⟩
     clear hk0 hk6 hb3
     go_wp2_with (first | (go_at_call 26; (with_reducible refine (HP.out.num (by decide) (by decide) x.f5 (by have := HG.out; omega) (by have := HG.out; omega) (by have := HL.out; omega) b3 HB3.out).mono ?_); rintro e w13 ⟨A13, c13, rfl, hP⟩; have n0_ := Aside0.mk hP; clear HP hP; have HP := n0_; clear n0_))
     go_roundg 1
     case measure => omega
     case rel => exact ⟨5, b3, by go_num, by omega, by omega, HP, ⟨by rw [HF.out, HB3.out, show encL ((fsJ x).drop (4 : Int).toNat) = encI x.f5 ++ encL ((fsJ x).drop (5 : Int).toNat) from rfl]; simp only [List.append_assoc]⟩, HL3⟩
    ·have hcp : wr.cell? ⟨P, 5, none⟩ = some (.int .i64 x.f6) := (blk_cell HP.out.pb 5).trans rfl
     obtain ⟨b3, hb3⟩ : ∃ b3, b3 = b' ++ encI x.f6 := ⟨_, rfl⟩
     have HB3 := Aside0.mk hb3
     have HL3 : Aside0 ((b3.length : Int) ≤ 3000 * i + 1014 + 4 * 6) := ⟨by have h1 := HL.out; have h2 := encI_len (v := x.f6) (by have := HG.out; omega) (by have := HG.out; omega); rw [hb3, List.length_append]; omega⟩
     clear hk0 hk6 hb3
     go_wp2_with (first | (go_at_call 26; (with_reducible refine (HP.out.num (by decide) (by decide) x.f6 (by have := HG.out; omega) (by have := HG.out; omega) (by have := HL.out; omega) b3 HB3.out).mono ?_); rintro e w13 ⟨A13, c13, rfl, hP⟩; have n0_ := Aside0.mk hP; clear HP hP; have HP := n0_; clear n0_))
     go_roundg 0
     case measure => omega
     case rel => exact ⟨6, b3, by go_num, by omega, by omega, HP, ⟨by rw [HF.out, HB3.out, show encL ((fsJ x).drop (5 : Int).toNat) = encI x.f6 ++ encL ((fsJ x).drop (6 : Int).toNat) from rfl]; simp only [List.append_assoc]⟩, HL3⟩
    ·clear hk0 hk6
     have hcz7 : wr.cell? ⟨J, 7, none⟩ = some (.bool x.f7) := (blk_cell HP.out.jb 7).trans rfl
     cases hx7 : x.f7
     ·rw [hx7] at hcz7
      have HH : Aside0 (hardJ x = 0) := ⟨by unfold hardJ; rw [hx7]; rfl⟩
      clear hx7
      go_wp2_with (first | ((with_reducible refine gate_builtin (b := .append) (xs := #[.tmp 53, .tmp 55]) rfl ?_); at_builtin; refine Kd.R_append (Kd.int .u8) (w0 := W) W.heap.size rfl (.tmp 53) (.tmp 55) 27 5 (.int .u8 0) 1 rfl Tryd.underlying27 infoByte rfl (by decide) (by omega) (.slice A3 b'.length c3) b' 0 [.int .u8 0] (fun _ => True) (fun _ => False) rfl rfl rfl (fun _ hk => hk.elim) (fun _ _ => trivial) HP.out.ro HP.out.bl (below_size HP.out.bl) (by have := HL.out; omega) ?_; intro v1 w1 ho hb hg hat; have HO2 := Aside0.mk ho; have HB2 := Aside0.mk hb; clear ho hb hg hat))
      go_roundg f
      case measure => omega
      case rel => exact ⟨i + 1, b' ++ [0], by go_num, by omega, by omega, HO2, HB2, ⟨by rw [HF.out, HH.out, List.append_assoc]; rfl⟩, ⟨by have := HL.out; rw [List.length_append]; simp only [List.length_cons, List.length_nil]; omega⟩⟩
     ·rw [hx7] at hcz7
      have HH : Aside0 (hardJ x = 1) := ⟨by unfold hardJ; rw [hx7]; rfl⟩
      clear hx7
      go_wp2_with (first | ((with_reducible refine gate_builtin (b := .append) (xs := #[.tmp 53, .tmp 55]) rfl ?_); at_builtin; refine Kd.R_append (Kd.int .u8) (w0 := W) W.heap.size rfl (.tmp 53) (.tmp 55) 27 5 (.int .u8 0) 1 rfl Tryd.underlying27 infoByte rfl (by decide) (by omega) (.slice A3 b'.length c3) b' 1 [.int .u8 1] (fun _ => True) (fun _ => False) rfl rfl rfl (fun _ hk => hk.elim) (fun _ _ => trivial) HP.out.ro HP.out.bl (below_size HP.out.bl) (by have := HL.out; omega) ?_; intro v1 w1 ho hb hg hat; have HO2 := Aside0.mk ho; have HB2 := Aside0.mk hb; clear ho hb hg hat))
      go_roundg f
      case measure => omega
      case rel => exact ⟨i + 1, b' ++ [1], by go_num, by omega, by omega, HO2, HB2, ⟨by rw [HF.out, HH.out, List.append_assoc]; rfl⟩, ⟨by have := HL.out; rw [List.length_append]; simp only [List.length_cons, List.length_nil]; omega⟩⟩
  ·have hF := HF.out
   rw [List.drop_of_length_le (by omega)] at hF
   have HF2 : Aside0 (full = b) := ⟨by rw [hF]; exact List.append_nil _⟩
   have hlb : b.length ≤ 1000000 := by have := HL.out; omega
   have HS := Aside0.mk (summed_is b hlb (b.length + 1) (Nat.lt_succ_self _))
   clear hF HF hlb
   go_wp2_with (first | (go_at_call 27; (with_reducible refine (codec_summed.calls (b.length + 1) (fun _ => True) _ b (summedL b) W _ HB.out HO.out HS.out).mono ?_); rintro e w8 ⟨v0, rfl, ho, hb, hk⟩))
   go_ret
   exact ⟨_, rfl, by rw [HF2.out]; exact Kd.R_mono ho (fun _ _ => trivial), hb⟩

end Go.Proofs.YtpgfecaomdioeaaDoor.PCt
