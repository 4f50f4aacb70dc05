/- The contract of tocsinref8.GetJobs. -/
-- slim
import Derived.Test.YtpgfecaomdioeaaDoorPCtx8
import Derived.Test.YtpgfecaomdioeaaDoorCodC
namespace Go.Proofs.YtpgfecaomdioeaaDoor.PCt
open Go.RowKit Go.Proofs.YtpgfecaomdioeaaDoor.PCt Go.Proofs.YtpgfecaomdioeaaDoorW.PrintWords Go.Proofs.YtpgfecaomdioeaaDoorW.PrintLast Go.Proofs.YtpgfecaomdioeaaDoorW.PrintMore 
set_option linter.unusedVariables false
set_option linter.unusedSimpArgs false

set_option maxHeartbeats 16000000
set_option maxRecDepth 100000
theorem rget_c (A : Option Addr) (c : Nat) (l : List Int) (W : World) (hT : Tab W) (hr : Kd.C (Kd.int .u8) W A l.length l) (hc : l.length ≤ c) (hl : l.length ≤ 1000000) (hby : ∀ x ∈ l, 0 ≤ x ∧ x < 256) :
  Calls Tryd.prog 13 #[.slice A l.length c] W (FPost W (readF l)) := by
 have HB := Aside0.mk (Below.refl W.heap.size W)
 have HTb := Aside0.mk hT
 obtain ⟨A1, m, c1, HC1, hm, hmc, CO⟩ := opened_any A c l W hr hc hl hby
 have HY : ∀ x ∈ (openL l).1, 0 ≤ x ∧ x < 256 := fun x hx => hby x (openL_mem l x hx)
 have HLe : (openL l).1.length ≤ 1000000 := Nat.le_trans (openL_le l) hl
 have HE : Aside0 (readF l = sayF (afterF (openL l).1 (!(openL l).2))) := ⟨rfl⟩
 generalize (openL l).1 = rest at *
 generalize (openL l).2 = wb at *
 have COp := Aside0.mk CO
 have NUM := Aside0.mk (fun (w : World) (hB : Below W.heap.size W w) => num_c W _ _ rest (!wb) (boxF m A1 c1 rest W w HC1 hm hmc (!wb)) (below_alloc hB _) (below_size hB) HY HLe)
 have HA : afterF rest (!wb) = jobsF (mV rest (!wb)).toNat (mR rest (!wb)) (mB rest (!wb)) [] := rfl
 rw [HA] at HE
 have bd := mV_bd rest (!wb) HY
 have HY2 := Aside0.mk (fun x (hx : x ∈ mR rest (!wb)) => HY x (mR_mem rest _ x hx))
 have HL2 := Aside0.mk (Nat.le_trans (mR_le rest (!wb)) HLe)
 clear hr hc hby HY HLe CO HA HC1 hT
 generalize mV rest (!wb) = N at *
 generalize mR rest (!wb) = l0 at *
 generalize mB rest (!wb) = b0 at *
 go_enter Tryd.func13, Tryd.ntmps13
 go_wp2_with (first | (go_at_call 29; (with_reducible refine COp.out.mono ?_); rintro e w7 ⟨rfl, hb⟩; have n0_ := Aside0.mk (below_step HB.out hb); clear HB; have HB := n0_; clear n0_ hb; have hgR : W.heap.size ≤ w7.heap.size := below_size HB.out) | (go_at_call 30; (with_reducible refine (NUM.out _ HB.out).mono ?_); rintro e w9 ⟨rfl, hRd, hB, hK⟩; have HRd := Aside0.mk hRd; have n0_ := Aside0.mk hB; clear hRd hB HB hK; have HB := n0_; clear n0_))
 generalize w7.heap.size = R at HRd hgR ⊢
 go_loopg [8, 9, 10, 11] N.toNat (fun f v8 v9 v10 v11 wr => ∃ (i : Int) (l1 : List Int) (b1 : Bool) (t : List S44), v9 = .int .i64 i ∧ 0 ≤ i ∧ i + f = N ∧ Aside0 (RdrF W wr R l1 b1) ∧ Aside0 (Kd.R k44 44 wr W.heap.size (fun _ => True) v8 t) ∧ Aside0 (Below W.heap.size W wr) ∧ Aside0 (jobsF N.toNat l0 b0 [] = jobsF f l1 b1 t) ∧ Aside0 ((b1 = false → t.length + l1.length ≤ 1000000) ∧ t.length ≤ 1000001 ∧ l1.length ≤ 1000000) ∧ Aside0 (∀ x ∈ l1, 0 ≤ x ∧ x < 256) ∧ Aside0 (∀ x ∈ t, x.f0.size ≤ 1000000))
 case atStart => exact ⟨0, l0, b0, [], rfl, by omega, by omega, HRd, ⟨Kd.R_nil _ _ _ _ _⟩, HB, ⟨rfl⟩, ⟨fun _ => by have := HL2.out; simpa using this, by simp, HL2.out⟩, HY2, ⟨by simp⟩⟩
 case round =>
  clear HRd HB HY2 HL2
  obtain ⟨i, l1, b1, t, rfl, hi0, hiN, HRd, HO, HB, HF, HTl, HY, HS⟩ := hrel
  obtain ⟨At, ct, rfl⟩ := Kd.R_slice HO.out
  obtain ⟨A4, c4, BK4, hC4, hc4⟩ := HRd.out
  have hcell0 : wr.cell? ⟨R, 0, none⟩ = some (.slice A4 l1.length c4) := (blk_cell BK4 0).trans rfl
  have hcell1 : wr.cell? ⟨R, 1, none⟩ = some (.bool b1) := (blk_cell BK4 1).trans rfl
  clear BK4 hC4 hc4
  by_cases hgo : i < N ∧ b1 = false
  ·obtain ⟨hlt, rfl⟩ := hgo
   obtain ⟨f, rfl⟩ : ∃ f, gk = f + 1 := ⟨gk - 1, by omega⟩
   have hL1 : l1.length ≤ 1000000 := HTl.out.2.2
   have TXT := Aside0.mk (rtext_c W wr R l1 false HRd.out HB.out hgR HY.out hL1)
   have HST : Aside0 (jobsF (f + 1) l1 false t = jobsF f (rdF l1 false).2.1 (rdF l1 false).2.2 (t ++ [(rdF l1 false).1])) := ⟨rfl⟩
   have HX0 : Aside0 (rdF l1 false = endF (sixF 6 0 (nameF l1 false) (xR l1 false) (xT l1 false))) := ⟨rfl⟩
   have HY0 := Aside0.mk (fun c (hc : c ∈ xR l1 false) => HY.out c (xR_mem l1 false c hc))
   have HL0 : Aside0 ((xR l1 false).length ≤ 1000000) := ⟨Nat.le_trans (xR_le l1 false) hL1⟩
   have HN0 : Aside0 ((nameF l1 false).f0.size ≤ 1000000) := ⟨Nat.le_trans (xS_le l1 false) hL1⟩
   have HNN : Aside0 (nameF l1 false = { z44 with f0 := xS l1 false }) := ⟨rfl⟩
   have HLT : Aside0 ((rdF l1 false).2.2 = true ∨ (rdF l1 false).2.1.length + 1 ≤ l1.length) := ⟨rdF_lt l1 HY.out⟩
   have HRq := HRd
   have HOq := HO
   obtain ⟨wq, hwq⟩ : ∃ wq, wq = wr := ⟨_, rfl⟩
   subst hwq
   generalize hxa : nameF l1 false = xa at HX0 HN0 HNN
   generalize xR l1 false = la at TXT HX0 HY0 HL0
   generalize xT l1 false = ba at TXT HX0
   generalize xS l1 false = sa at TXT HNN
   clear hxa HRd HB HO hL1
   go_upto_region 9 with (first | (go_at_call 31; (with_reducible refine TXT.out.mono ?_); rintro e w11 ⟨rfl, hRd, hB, hK⟩; have HRd := Aside0.mk hRd; have HB := Aside0.mk hB; have HK := Aside0.mk hK; clear hRd hB hK))
   have HJ0 : Aside0 (JF W wq (w11.alloc (.cells #[.string sa, .int .i64 0, .int .i64 0, .int .i64 0, .int .i64 0, .int .i64 0, .int .i64 0, .bool false] 44)) R w11.heap.size la ba xa) := ⟨by
    have h1 := jf0 xa HRd.out HB.out HK.out hgR
    rw [show cellsF xa = #[.string sa, .int .i64 0, .int .i64 0, .int .i64 0, .int .i64 0, .int .i64 0, .int .i64 0, .bool false] by rw [HNN.out]; rfl] at h1
    exact h1⟩
   clear HRd HB HK HNN TXT
   generalize w11.alloc (.cells #[.string sa, .int .i64 0, .int .i64 0, .int .i64 0, .int .i64 0, .int .i64 0, .int .i64 0, .bool false] 44) = w12 at HJ0 ⊢
   generalize w11.heap.size = J at HJ0 ⊢
   go_upto_region 16 with (first | (go_at_call 30; (with_reducible refine (HJ0.out.num HY0.out HL0.out).mono ?_); rintro e u0 ⟨rfl, hJ⟩; have HY1 := Aside0.mk (fun c (hc : c ∈ mR la ba) => HY0.out c (mR_mem _ _ c hc)); have HL1 := Aside0.mk (Nat.le_trans (mR_le la ba) HL0.out); have HX1 : Aside0 (rdF l1 false = endF (sixF 5 1 (setG xa 0 (mV la ba)) (mR la ba) (mB la ba))) := ⟨HX0.out⟩; have HN1 : Aside0 ((setG xa 0 (mV la ba)).f0.size ≤ 1000000) := ⟨HN0.out⟩; generalize mV la ba = v0 at HX1 HN1 ⊢; generalize mR la ba = l1_ at hJ HX1 HY1 HL1; generalize mB la ba = b1_ at hJ HX1; have hfz := blk_frozen hJ.jb 1; have hcz : u0.cell? ⟨J, 1, none⟩ = some (.int .i64 xa.f1) := (blk_cell hJ.jb 1).trans rfl; have HJ1 := Aside0.mk (hJ.set 1 (.int .i64 v0) (setG xa 0 v0) (by decide) rfl); clear hJ HJ0 HY0 HL0 HX0 HN0; generalize setG xa 0 v0 = x1 at HJ1 HX1 HN1) | (go_at_call 30; (with_reducible refine (HJ1.out.num HY1.out HL1.out).mono ?_); rintro e u1 ⟨rfl, hJ⟩; have HY2 := Aside0.mk (fun c (hc : c ∈ mR l1_ b1_) => HY1.out c (mR_mem _ _ c hc)); have HL2 := Aside0.mk (Nat.le_trans (mR_le l1_ b1_) HL1.out); have HX2 : Aside0 (rdF l1 false = endF (sixF 4 2 (setG x1 1 (mV l1_ b1_)) (mR l1_ b1_) (mB l1_ b1_))) := ⟨HX1.out⟩; have HN2 : Aside0 ((setG x1 1 (mV l1_ b1_)).f0.size ≤ 1000000) := ⟨HN1.out⟩; generalize mV l1_ b1_ = v1 at HX2 HN2 ⊢; generalize mR l1_ b1_ = l2_ at hJ HX2 HY2 HL2; generalize mB l1_ b1_ = b2_ at hJ HX2; have hfz := blk_frozen hJ.jb 2; have hcz : u1.cell? ⟨J, 2, none⟩ = some (.int .i64 x1.f2) := (blk_cell hJ.jb 2).trans rfl; have HJ2 := Aside0.mk (hJ.set 2 (.int .i64 v1) (setG x1 1 v1) (by decide) rfl); clear hJ HJ1 HY1 HL1 HX1 HN1; generalize setG x1 1 v1 = x2 at HJ2 HX2 HN2) | (go_at_call 30; (with_reducible refine (HJ2.out.num HY2.out HL2.out).mono ?_); rintro e u2 ⟨rfl, hJ⟩; have HY3 := Aside0.mk (fun c (hc : c ∈ mR l2_ b2_) => HY2.out c (mR_mem _ _ c hc)); have HL3 := Aside0.mk (Nat.le_trans (mR_le l2_ b2_) HL2.out); have HX3 : Aside0 (rdF l1 false = endF (sixF 3 3 (setG x2 2 (mV l2_ b2_)) (mR l2_ b2_) (mB l2_ b2_))) := ⟨HX2.out⟩; have HN3 : Aside0 ((setG x2 2 (mV l2_ b2_)).f0.size ≤ 1000000) := ⟨HN2.out⟩; generalize mV l2_ b2_ = v2 at HX3 HN3 ⊢; generalize mR l2_ b2_ = l3_ at hJ HX3 HY3 HL3; generalize mB l2_ b2_ = b3_ at hJ HX3; have hfz := blk_frozen hJ.jb 3; have hcz : u2.cell? ⟨J, 3, none⟩ = some (.int .i64 x2.f3) := (blk_cell hJ.jb 3).trans rfl; have HJ3 := Aside0.mk (hJ.set 3 (.int .i64 v2) (setG x2 2 v2) (by decide) rfl); clear hJ HJ2 HY2 HL2 HX2 HN2; generalize setG x2 2 v2 = x3 at HJ3 HX3 HN3) | (go_at_call 30; (with_reducible refine (HJ3.out.num HY3.out HL3.out).mono ?_); rintro e u3 ⟨rfl, hJ⟩; have HY4 := Aside0.mk (fun c (hc : c ∈ mR l3_ b3_) => HY3.out c (mR_mem _ _ c hc)); have HL4 := Aside0.mk (Nat.le_trans (mR_le l3_ b3_) HL3.out); have HX4 : Aside0 (rdF l1 false = endF (sixF 2 4 (setG x3 3 (mV l3_ b3_)) (mR l3_ b3_) (mB l3_ b3_))) := ⟨HX3.out⟩; have HN4 : Aside0 ((setG x3 3 (mV l3_ b3_)).f0.size ≤ 1000000) := ⟨HN3.out⟩; generalize mV l3_ b3_ = v3 at HX4 HN4 ⊢; generalize mR l3_ b3_ = l4_ at hJ HX4 HY4 HL4; generalize mB l3_ b3_ = b4_ at hJ HX4; have hfz := blk_frozen hJ.jb 4; have hcz : u3.cell? ⟨J, 4, none⟩ = some (.int .i64 x3.f4) := (blk_cell hJ.jb 4).trans rfl; have HJ4 := Aside0.mk (hJ.set 4 (.int .i64 v3) (setG x3 3 v3) (by decide) rfl); clear hJ HJ3 HY3 HL3 HX3 HN3; generalize setG x3 3 v3 = x4 at HJ4 HX4 HN4) | (go_at_call 30; (with_reducible refine (HJ4.out.num HY4.out HL4.out).mono ?_); rintro e u4 ⟨rfl, hJ⟩; have HY5 := Aside0.mk (fun c (hc : c ∈ mR l4_ b4_) => HY4.out c (mR_mem _ _ c hc)); have HL5 := Aside0.mk (Nat.le_trans (mR_le l4_ b4_) HL4.out); have HX5 : Aside0 (rdF l1 false = endF (sixF 1 5 (setG x4 4 (mV l4_ b4_)) (mR l4_ b4_) (mB l4_ b4_))) := ⟨HX4.out⟩; have HN5 : Aside0 ((setG x4 4 (mV l4_ b4_)).f0.size ≤ 1000000) := ⟨HN4.out⟩; generalize mV l4_ b4_ = v4 at HX5 HN5 ⊢; generalize mR l4_ b4_ = l5_ at hJ HX5 HY5 HL5; generalize mB l4_ b4_ = b5_ at hJ HX5; have hfz := blk_frozen hJ.jb 5; have hcz : u4.cell? ⟨J, 5, none⟩ = some (.int .i64 x4.f5) := (blk_cell hJ.jb 5).trans rfl; have HJ5 := Aside0.mk (hJ.set 5 (.int .i64 v4) (setG x4 4 v4) (by decide) rfl); clear hJ HJ4 HY4 HL4 HX4 HN4; generalize setG x4 4 v4 = x5 at HJ5 HX5 HN5) | (go_at_call 30; (with_reducible refine (HJ5.out.num HY5.out HL5.out).mono ?_); rintro e u5 ⟨rfl, hJ⟩; have HY6 := Aside0.mk (fun c (hc : c ∈ mR l5_ b5_) => HY5.out c (mR_mem _ _ c hc)); have HL6 := Aside0.mk (Nat.le_trans (mR_le l5_ b5_) HL5.out); have HX6 : Aside0 (rdF l1 false = endF (sixF 0 6 (setG x5 5 (mV l5_ b5_)) (mR l5_ b5_) (mB l5_ b5_))) := ⟨HX5.out⟩; have HN6 : Aside0 ((setG x5 5 (mV l5_ b5_)).f0.size ≤ 1000000) := ⟨HN5.out⟩; generalize mV l5_ b5_ = v5 at HX6 HN6 ⊢; generalize mR l5_ b5_ = l6_ at hJ HX6 HY6 HL6; generalize mB l5_ b5_ = b6_ at hJ HX6; have hfz := blk_frozen hJ.jb 6; have hcz : u5.cell? ⟨J, 6, none⟩ = some (.int .i64 x5.f6) := (blk_cell hJ.jb 6).trans rfl; have HJ6 := Aside0.mk (hJ.set 6 (.int .i64 v5) (setG x5 5 v5) (by decide) rfl); clear hJ HJ5 HY5 HL5 HX5 HN5; generalize setG x5 5 v5 = x6 at HJ6 HX6 HN6) | (go_at_call 30; (with_reducible refine (HJ6.out.num HY6.out HL6.out).mono ?_); rintro e u6 ⟨rfl, hJ⟩; have HY7 := Aside0.mk (fun c (hc : c ∈ mR l6_ b6_) => HY6.out c (mR_mem _ _ c hc)); have HL7 := Aside0.mk (Nat.le_trans (mR_le l6_ b6_) HL6.out); have HX7 : Aside0 (rdF l1 false = ({ x6 with f7 := (mV l6_ b6_ == 1) }, mR l6_ b6_, mB l6_ b6_ || decide (mV l6_ b6_ > 1))) := ⟨HX6.out⟩; generalize mV l6_ b6_ = v6 at HX7 ⊢; generalize mR l6_ b6_ = l7_ at hJ HX7 HY7 HL7; generalize mB l6_ b6_ = b7_ at hJ HX7; have HJ7 := Aside0.mk hJ; clear hJ HJ6 HY6 HL6 HX6))
   have hfz7 := blk_frozen HJ7.out.jb 7
   have hcz7 : u6.cell? ⟨J, 7, none⟩ = some (.bool x6.f7) := (blk_cell HJ7.out.jb 7).trans rfl
   go_upto_region 17 with (fail)
   have HJ8 := Aside0.mk (HJ7.out.set 7 (.bool (v6 == 1)) ({ x6 with f7 := (v6 == 1) }) (by decide) rfl)
   have HN8 : Aside0 (({ x6 with f7 := (v6 == 1) } : S44).f0.size ≤ 1000000) := ⟨HN6.out⟩
   clear hfz7 hcz7 HJ7 HN6
   generalize u6.setCell ⟨J, 7, none⟩ (.bool (v6 == 1)) = u7 at HJ8 ⊢
   generalize ({ x6 with f7 := (v6 == 1) } : S44) = x8 at HJ8 HX7 HN8
   obtain ⟨A8, c8, BK8, hC8, hc8⟩ := HJ8.out.rd
   have hR1 : u7.cell? ⟨R, 1, none⟩ = some (.bool b7_) := (blk_cell BK8 1).trans rfl
   have hfR := blk_frozen BK8 1
   clear BK8 hC8 hc8
   have HNe := Aside0.mk (show some R ≠ (Value.slice At t.length ct).ownBlock from by obtain ⟨_, _, BK, _⟩ := HRq.out; exact Kd.R_ne HOq.out BK (by decide))
   cases b7_ with
   | true =>
    go_upto_region 18 with (fail)
    have HJ9 := Aside0.mk (HJ8.out.bad true)
    have HX9 : Aside0 (rdF l1 false = (x8, l7_, true)) := ⟨by rw [HX7.out]; rfl⟩
    generalize u7.setCell ⟨R, 1, none⟩ (.bool true) = u9 at HJ9 ⊢
    obtain ⟨b9, HJ9, HX9⟩ : ∃ b9 : Bool, Aside0 (JF W wq u9 R J l7_ b9 x8) ∧ Aside0 (rdF l1 false = (x8, l7_, b9)) := ⟨_, HJ9, HX9⟩
    clear HJ8 HX7 hR1 hfR
    have hcz0 : u9.cell? ⟨J, 0, none⟩ = some (.string x8.f0) := (blk_cell HJ9.out.jb 0).trans rfl
    have hcz1 : u9.cell? ⟨J, 1, none⟩ = some (.int .i64 x8.f1) := (blk_cell HJ9.out.jb 1).trans rfl
    have hcz2 : u9.cell? ⟨J, 2, none⟩ = some (.int .i64 x8.f2) := (blk_cell HJ9.out.jb 2).trans rfl
    have hcz3 : u9.cell? ⟨J, 3, none⟩ = some (.int .i64 x8.f3) := (blk_cell HJ9.out.jb 3).trans rfl
    have hcz4 : u9.cell? ⟨J, 4, none⟩ = some (.int .i64 x8.f4) := (blk_cell HJ9.out.jb 4).trans rfl
    have hcz5 : u9.cell? ⟨J, 5, none⟩ = some (.int .i64 x8.f5) := (blk_cell HJ9.out.jb 5).trans rfl
    have hcz6 : u9.cell? ⟨J, 6, none⟩ = some (.int .i64 x8.f6) := (blk_cell HJ9.out.jb 6).trans rfl
    have hcz7 : u9.cell? ⟨J, 7, none⟩ = some (.bool x8.f7) := (blk_cell HJ9.out.jb 7).trans rfl
    have HO9 : Aside0 (Kd.R k44 44 u9 W.heap.size (fun _ => True) (.slice At t.length ct) t) := ⟨by obtain ⟨_, _, BK, _⟩ := HRq.out; exact Kd.R_mono (Kd.R_keep (Kd.R_types HOq.out BK (by decide)) HJ9.out.kp (fun _ hk => hk.2)) (fun _ _ => trivial)⟩
    go_wp2_with (first | ((with_reducible refine gate_builtin (b := .append) (xs := #[.tmp 73, .tmp 75]) rfl ?_); at_builtin; refine Kd.R_append k44 (w0 := W) W.heap.size rfl (.tmp 73) (.tmp 75) 36 44 (.agg #[(.string ⟨#[]⟩), (.int .i64 0), (.int .i64 0), (.int .i64 0), (.int .i64 0), (.int .i64 0), (.int .i64 0), (.bool false)]) 72 rfl Tryd.underlying36 infoRef rfl (by decide) (by omega) (.slice At t.length ct) t x8 [.string x8.f0, .int .i64 x8.f1, .int .i64 x8.f2, .int .i64 x8.f3, .int .i64 x8.f4, .int .i64 x8.f5, .int .i64 x8.f6, .bool x8.f7] (fun _ => True) (fun _ => False) rfl (by first | (go_simp; done) | (go_simp; rfl)) ?aP (fun _ hk => hk.elim) ?aF ?aO ?aB ?aS ?aL ?_; (case aP => exact k44_mkM _ _ _ x8); (case aF => exact (fun _ _ => trivial)); (case aO => exact HO9.out); (case aB => exact HJ9.out.bl); (case aS => exact below_size HJ9.out.bl); (case aL => have := HTl.out.2.1; omega); intro v1 w1 ho hb hg hat; have HO2 := Aside0.mk ho; have HB2 := Aside0.mk hb; have HRd3 := Aside0.mk (RdrF_grown HJ9.out.rd hg HNe.out); clear ho hb hg hat))
    go_roundg f
    case measure => omega
    case rel => exact ⟨i + 1, l7_, b9, t ++ [x8], by go_num, by omega, by omega, HRd3, HO2, HB2, ⟨by rw [HF.out, HST.out, HX9.out]⟩, ⟨by have h1 := HLT.out; rw [HX9.out] at h1; have h2 : t.length + l1.length ≤ 1000000 := (by have h2 := HTl.out.1; simpa using h2); have h3 := HL7.out; rw [List.length_append]; simp only [List.length_cons, List.length_nil]; exact ⟨fun hb => by subst hb; rcases h1 with h1 | h1; (cases h1); have h4 : l7_.length + 1 ≤ l1.length := h1; omega, by omega, h3⟩⟩, HY7, ⟨fun y hy => by
      rcases List.mem_append.1 hy with h | h
      ·exact HS.out y h
      ·obtain rfl := List.mem_singleton.1 h
       exact HN8.out⟩⟩
   | false =>
    by_cases hv : v6 > 1
    ·have e1 : decide (v6 > 1) = true := decide_eq_true hv
     have e2 : decide (1 < v6) = true := decide_eq_true hv
     go_upto_region 18 with (fail)
     have HJ9 := Aside0.mk (HJ8.out.bad true)
     have HX9 : Aside0 (rdF l1 false = (x8, l7_, true)) := ⟨by rw [HX7.out, e1]; rfl⟩
     generalize u7.setCell ⟨R, 1, none⟩ (.bool true) = u9 at HJ9 ⊢
     obtain ⟨b9, HJ9, HX9⟩ : ∃ b9 : Bool, Aside0 (JF W wq u9 R J l7_ b9 x8) ∧ Aside0 (rdF l1 false = (x8, l7_, b9)) := ⟨_, HJ9, HX9⟩
     clear HJ8 HX7 hR1 hfR
     have hcz0 : u9.cell? ⟨J, 0, none⟩ = some (.string x8.f0) := (blk_cell HJ9.out.jb 0).trans rfl
     have hcz1 : u9.cell? ⟨J, 1, none⟩ = some (.int .i64 x8.f1) := (blk_cell HJ9.out.jb 1).trans rfl
     have hcz2 : u9.cell? ⟨J, 2, none⟩ = some (.int .i64 x8.f2) := (blk_cell HJ9.out.jb 2).trans rfl
     have hcz3 : u9.cell? ⟨J, 3, none⟩ = some (.int .i64 x8.f3) := (blk_cell HJ9.out.jb 3).trans rfl
     have hcz4 : u9.cell? ⟨J, 4, none⟩ = some (.int .i64 x8.f4) := (blk_cell HJ9.out.jb 4).trans rfl
     have hcz5 : u9.cell? ⟨J, 5, none⟩ = some (.int .i64 x8.f5) := (blk_cell HJ9.out.jb 5).trans rfl
     have hcz6 : u9.cell? ⟨J, 6, none⟩ = some (.int .i64 x8.f6) := (blk_cell HJ9.out.jb 6).trans rfl
     have hcz7 : u9.cell? ⟨J, 7, none⟩ = some (.bool x8.f7) := (blk_cell HJ9.out.jb 7).trans rfl
     have HO9 : Aside0 (Kd.R k44 44 u9 W.heap.size (fun _ => True) (.slice At t.length ct) t) := ⟨by obtain ⟨_, _, BK, _⟩ := HRq.out; exact Kd.R_mono (Kd.R_keep (Kd.R_types HOq.out BK (by decide)) HJ9.out.kp (fun _ hk => hk.2)) (fun _ _ => trivial)⟩
     go_wp2_with (first | ((with_reducible refine gate_builtin (b := .append) (xs := #[.tmp 73, .tmp 75]) rfl ?_); at_builtin; refine Kd.R_append k44 (w0 := W) W.heap.size rfl (.tmp 73) (.tmp 75) 36 44 (.agg #[(.string ⟨#[]⟩), (.int .i64 0), (.int .i64 0), (.int .i64 0), (.int .i64 0), (.int .i64 0), (.int .i64 0), (.bool false)]) 72 rfl Tryd.underlying36 infoRef rfl (by decide) (by omega) (.slice At t.length ct) t x8 [.string x8.f0, .int .i64 x8.f1, .int .i64 x8.f2, .int .i64 x8.f3, .int .i64 x8.f4, .int .i64 x8.f5, .int .i64 x8.f6, .bool x8.f7] (fun _ => True) (fun _ => False) rfl (by first | (go_simp; done) | (go_simp; rfl)) ?aP (fun _ hk => hk.elim) ?aF ?aO ?aB ?aS ?aL ?_; (case aP => exact k44_mkM _ _ _ x8); (case aF => exact (fun _ _ => trivial)); (case aO => exact HO9.out); (case aB => exact HJ9.out.bl); (case aS => exact below_size HJ9.out.bl); (case aL => have := HTl.out.2.1; omega); intro v1 w1 ho hb hg hat; have HO2 := Aside0.mk ho; have HB2 := Aside0.mk hb; have HRd3 := Aside0.mk (RdrF_grown HJ9.out.rd hg HNe.out); clear ho hb hg hat))
     go_roundg f
     case measure => omega
     case rel => exact ⟨i + 1, l7_, b9, t ++ [x8], by go_num, by omega, by omega, HRd3, HO2, HB2, ⟨by rw [HF.out, HST.out, HX9.out]⟩, ⟨by have h1 := HLT.out; rw [HX9.out] at h1; have h2 : t.length + l1.length ≤ 1000000 := (by have h2 := HTl.out.1; simpa using h2); have h3 := HL7.out; rw [List.length_append]; simp only [List.length_cons, List.length_nil]; exact ⟨fun hb => by subst hb; rcases h1 with h1 | h1; (cases h1); have h4 : l7_.length + 1 ≤ l1.length := h1; omega, by omega, h3⟩⟩, HY7, ⟨fun y hy => by
       rcases List.mem_append.1 hy with h | h
       ·exact HS.out y h
       ·obtain rfl := List.mem_singleton.1 h
        exact HN8.out⟩⟩
    ·have e1 : decide (v6 > 1) = false := decide_eq_false hv
     have e2 : decide (1 < v6) = false := decide_eq_false hv
     go_upto_region 18 with (fail)
     have HJ9 := Aside0.mk (HJ8.out.bad false)
     have HX9 : Aside0 (rdF l1 false = (x8, l7_, false)) := ⟨by rw [HX7.out, e1]; rfl⟩
     generalize u7.setCell ⟨R, 1, none⟩ (.bool false) = u9 at HJ9 ⊢
     obtain ⟨b9, HJ9, HX9⟩ : ∃ b9 : Bool, Aside0 (JF W wq u9 R J l7_ b9 x8) ∧ Aside0 (rdF l1 false = (x8, l7_, b9)) := ⟨_, HJ9, HX9⟩
     clear HJ8 HX7 hR1 hfR
     have hcz0 : u9.cell? ⟨J, 0, none⟩ = some (.string x8.f0) := (blk_cell HJ9.out.jb 0).trans rfl
     have hcz1 : u9.cell? ⟨J, 1, none⟩ = some (.int .i64 x8.f1) := (blk_cell HJ9.out.jb 1).trans rfl
     have hcz2 : u9.cell? ⟨J, 2, none⟩ = some (.int .i64 x8.f2) := (blk_cell HJ9.out.jb 2).trans rfl
     have hcz3 : u9.cell? ⟨J, 3, none⟩ = some (.int .i64 x8.f3) := (blk_cell HJ9.out.jb 3).trans rfl
     have hcz4 : u9.cell? ⟨J, 4, none⟩ = some (.int .i64 x8.f4) := (blk_cell HJ9.out.jb 4).trans rfl
     have hcz5 : u9.cell? ⟨J, 5, none⟩ = some (.int .i64 x8.f5) := (blk_cell HJ9.out.jb 5).trans rfl
     have hcz6 : u9.cell? ⟨J, 6, none⟩ = some (.int .i64 x8.f6) := (blk_cell HJ9.out.jb 6).trans rfl
     have hcz7 : u9.cell? ⟨J, 7, none⟩ = some (.bool x8.f7) := (blk_cell HJ9.out.jb 7).trans rfl
     have HO9 : Aside0 (Kd.R k44 44 u9 W.heap.size (fun _ => True) (.slice At t.length ct) t) := ⟨by obtain ⟨_, _, BK, _⟩ := HRq.out; exact Kd.R_mono (Kd.R_keep (Kd.R_types HOq.out BK (by decide)) HJ9.out.kp (fun _ hk => hk.2)) (fun _ _ => trivial)⟩
     go_wp2_with (first | ((with_reducible refine gate_builtin (b := .append) (xs := #[.tmp 73, .tmp 75]) rfl ?_); at_builtin; refine Kd.R_append k44 (w0 := W) W.heap.size rfl (.tmp 73) (.tmp 75) 36 44 (.agg #[(.string ⟨#[]⟩), (.int .i64 0), (.int .i64 0), (.int .i64 0), (.int .i64 0), (.int .i64 0), (.int .i64 0), (.bool false)]) 72 rfl Tryd.underlying36 infoRef rfl (by decide) (by omega) (.slice At t.length ct) t x8 [.string x8.f0, .int .i64 x8.f1, .int .i64 x8.f2, .int .i64 x8.f3, .int .i64 x8.f4, .int .i64 x8.f5, .int .i64 x8.f6, .bool x8.f7] (fun _ => True) (fun _ => False) rfl (by first | (go_simp; done) | (go_simp; rfl)) ?aP (fun _ hk => hk.elim) ?aF ?aO ?aB ?aS ?aL ?_; (case aP => exact k44_mkM _ _ _ x8); (case aF => exact (fun _ _ => trivial)); (case aO => exact HO9.out); (case aB => exact HJ9.out.bl); (case aS => exact below_size HJ9.out.bl); (case aL => have := HTl.out.2.1; omega); intro v1 w1 ho hb hg hat; have HO2 := Aside0.mk ho; have HB2 := Aside0.mk hb; have HRd3 := Aside0.mk (RdrF_grown HJ9.out.rd hg HNe.out); clear ho hb hg hat))
     go_roundg f
     case measure => omega
     case rel => exact ⟨i + 1, l7_, b9, t ++ [x8], by go_num, by omega, by omega, HRd3, HO2, HB2, ⟨by rw [HF.out, HST.out, HX9.out]⟩, ⟨by have h1 := HLT.out; rw [HX9.out] at h1; have h2 : t.length + l1.length ≤ 1000000 := (by have h2 := HTl.out.1; simpa using h2); have h3 := HL7.out; rw [List.length_append]; simp only [List.length_cons, List.length_nil]; exact ⟨fun hb => by subst hb; rcases h1 with h1 | h1; (cases h1); have h4 : l7_.length + 1 ≤ l1.length := h1; omega, by omega, h3⟩⟩, HY7, ⟨fun y hy => by
       rcases List.mem_append.1 hy with h | h
       ·exact HS.out y h
       ·obtain rfl := List.mem_singleton.1 h
        exact HN8.out⟩⟩
  ·have HF2 : Aside0 (readF l = sayF (t, l1, b1)) := ⟨by
    rw [HE.out, HF.out]
    congr 1
    cases gk with
    | zero => rfl
    | succ g =>
     have hb1 : b1 = true := by
      cases b1
      ·exact absurd ⟨by omega, rfl⟩ hgo
      ·rfl
     subst hb1
     exact if_pos rfl⟩
   cases b1 with
   | true =>
    by_cases hlt : i < N
    ·have e0 : decide (i < N) = true := decide_eq_true hlt
     clear hgo
     go_wp2
     go_ret2
     exact fpost_bad (by rw [HF2.out]; rfl) HB.out
    ·have e0 : decide (i < N) = false := decide_eq_false hlt
     clear hgo
     go_wp2
     go_ret2
     exact fpost_bad (by rw [HF2.out]; rfl) HB.out
   | false =>
    have hlt : ¬ i < N := fun h => hgo ⟨h, rfl⟩
    have e0 : decide (i < N) = false := decide_eq_false hlt
    clear hgo
    by_cases h0 : 0 < l1.length
    ·have e1 : decide (0 < l1.length) = true := decide_eq_true h0
     have e2 : decide ((l1.length : Int) > 0) = true := decide_eq_true (by omega)
     have HF3 : Aside0 (readF l = ([], false)) := ⟨by rw [HF2.out]; unfold sayF; rw [if_neg (show ¬ (false = true) by decide), if_pos h0]⟩
     clear h0
     go_wp2
     go_ret2
     exact fpost_bad HF3.out HB.out
    ·have e1 : decide (0 < l1.length) = false := decide_eq_false h0
     have e2 : decide ((l1.length : Int) > 0) = false := decide_eq_false (by omega)
     have HF3 : Aside0 (readF l = if (t.all goodR && decide (t.length ≤ 200)) = true then (t, true) else ([], false)) := ⟨by rw [HF2.out]; unfold sayF; rw [if_neg (show ¬ (false = true) by decide), if_neg h0]⟩
     have hAl := All_is t HS.out (by have h2 := HTl.out.1; have h3 : t.length + l1.length ≤ 1000000 := (by simpa using h2); omega)
     clear h0
     have CA := Aside0.mk (tocsinref8_All.calls (t.length + 1) At ct t (t.all goodR && decide (t.length ≤ 200)) wr (tab_below HTb.out HB.out) (Kd.R_reads' HO.out).2.2 (Kd.R_reads' HO.out).2.1 hAl)
     clear hAl
     cases hg : (t.all goodR && decide (t.length ≤ 200))
     ·rw [hg] at CA HF3
      clear hg
      go_wp2_with (first | (go_at_call 32; (with_reducible refine (CA.out).mono ?_); rintro e w7 ⟨rfl, hb⟩; have n0_ := Aside0.mk (below_step (by repeat (first | (with_reducible first | exact HB.out | apply below_alloc | apply pw_below_drewN | apply below_drew1) | exact HB.out)) hb); clear HB; have HB := n0_; clear n0_ hb))
      go_ret2
      exact fpost_bad HF3.out HB.out
     ·rw [hg] at CA HF3
      clear hg
      go_wp2_with (first | (go_at_call 32; (with_reducible refine CA.out.mono ?_); rintro e w7 ⟨rfl, hb⟩; have n0_ := Aside0.mk (below_step HB.out hb); have n1_ := Aside0.mk (Kd.R_below HO.out hb); clear HB HO; have HB := n0_; have HO := n1_; clear n0_ n1_ hb))
      go_ret2
      refine ⟨_, by rw [HF3.out]; rfl, ?_, HB.out⟩
      rw [HF3.out]
      exact HO.out

end Go.Proofs.YtpgfecaomdioeaaDoor.PCt
