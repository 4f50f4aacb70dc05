/- The contract of tocsinref8.GetTrace. -/
-- slim
import Derived.Test.YtpgfecaomdioeaaDoorPCtx2
import Derived.Test.YtpgfecaomdioeaaDoorCodC
namespace Go.Proofs.YtpgfecaomdioeaaDoor.PCt
open Go.RowKit Go.Proofs.YtpgfecaomdioeaaDoor.PCt Go.Proofs.YtpgfecaomdioeaaDoorW.PrintWords Go.Proofs.YtpgfecaomdioeaaDoorW.PrintLast Go.Proofs.YtpgfecaomdioeaaDoorW.PrintMore 
set_option linter.unusedVariables false
set_option linter.unusedSimpArgs false

def refT : Nat → List Int → Int → List Int → Option (List Int)
 | 0, _, _, t => some t
 | f + 1, l, last, t => if l.length = 0 then some t else
   if mB (mR l false) (mB l false) = true ∨ mV l false < 1 ∨ mV l false > 10000 - (t.length : Int) ∨ mV (mR l false) (mB l false) - 1 > 199 ∨ mV (mR l false) (mB l false) - 1 = last then none else
    refT f (mR (mR l false) (mB l false)) (mV (mR l false) (mB l false) - 1) (t ++ List.replicate (mV l false).toNat (mV (mR l false) (mB l false) - 1))
def sayT : Option (List Int) → List Int × Bool
 | none => ([], false)
 | some t => (t, true)
def readRT (l : List Int) : List Int × Bool := if (openL l).2 = false then ([], false) else sayT (refT (openL l).1.length (openL l).1 (-2) [])
def TPost (W : World) (r : List Int × Bool) (e : Ending) (w' : World) : Prop := ∃ v0_ : Value, e = .returned (.tuple #[v0_, .bool r.2]) ∧ Kd.R (Kd.int .i64) 3 w' W.heap.size (fun _ => True) v0_ r.1 ∧ Below W.heap.size W w'
theorem tpost_bad {W w' : World} {r : List Int × Bool} (h : r = ([], false)) (hb : Below W.heap.size W w') : TPost W r (.returned (.tuple #[.slice none 0 0, .bool false])) w' := by
 subst h
 exact ⟨_, rfl, Kd.R_nil _ _ _ _ _, hb⟩
theorem RF_num {W0 W w' : World} {R : Nat} {l : List Int} {bad : Bool} {v : Value} {t : List Int} (h : Kd.R (Kd.int .i64) 3 W W0.heap.size (fun _ => True) v t) (hR : RdrF W0 W R l bad) (hk : KeepBut W w' R none) : Kd.R (Kd.int .i64) 3 w' W0.heap.size (fun _ => True) v t := by
 obtain ⟨A, c, BK, _⟩ := hR
 exact Kd.R_mono (Kd.R_keep (Kd.R_types h BK (fun q hq => by simp [Kd.int, Kd.scalar] at hq; subst hq; decide)) hk (fun _ hk => hk.2)) (fun _ _ => trivial)
theorem mR_lt (l : List Int) (hb : ∀ x ∈ l, 0 ≤ x ∧ x < 256) (h : mB (mR l false) (mB l false) = false) : (mR (mR l false) (mB l false)).length < l.length := by
 have h1 : mB l false = false := by
  cases hq : mB l false with
  | false => rfl
  | true => rw [hq] at h; cases h
 rw [h1] at h ⊢
 have a := mB_lt l false hb h1
 have b := mR_le (mR l false) false
 omega
set_option maxHeartbeats 8000000
set_option maxRecDepth 100000
theorem rgt_bad (A : Option Addr) (c : Nat) (l : List Int) (W : World) (hr : Kd.C (Kd.int .u8) W A l.length l) (hc : l.length ≤ c) (hl : l.length ≤ 1000000) (hby : ∀ x ∈ l, 0 ≤ x ∧ x < 256) (h : (openL l).2 = false) :
  Calls Tryd.prog 14 #[.slice A l.length c] W (TPost W ([], false)) := by
 have HB := Aside0.mk (Below.refl W.heap.size W)
 obtain ⟨A1, m, c1, HC1, hm, hmc, CO⟩ := opened_any A c l W hr hc hl hby
 rw [h] at CO
 generalize (openL l).1 = rest at *
 have COp := Aside0.mk CO
 clear hr hc hby CO HC1 h
 by_cases h0 : 0 < m
 ·have e1 : decide (0 < m) = true := decide_eq_true h0
  have e2 : decide ((0 : Int) < m) = true := decide_eq_true (by omega)
  clear h0
  go_enter Tryd.func14, Tryd.ntmps14
  go_wp2_with (first | (go_at_call 29; (with_reducible refine (COp.out).mono ?_); rintro e w7 ⟨rfl, hb⟩; have n0_ := Aside0.mk (below_step (by repeat (first | (with_reducible first | exact HB.out | apply below_alloc | apply pw_below_drewN | apply below_drew1) | exact HB.out)) hb); clear HB; have HB := n0_; clear n0_ hb))
  go_loop [7] (fun v => v = .slice none 0 0) (fun _ => 0)
  case atStart => rfl
  case round =>
   subst hrel
   go_wp2
   go_quiet (fail)
   go_wp2
   go_ret2
   exact tpost_bad rfl (by repeat (first | (with_reducible first | exact HB.out | apply below_alloc | apply pw_below_drewN | apply below_drew1) | exact HB.out))
 ·have e1 : decide (0 < m) = false := decide_eq_false h0
  have e2 : decide ((0 : Int) < m) = false := decide_eq_false (by omega)
  clear h0
  go_enter Tryd.func14, Tryd.ntmps14
  go_wp2_with (first | (go_at_call 29; (with_reducible refine (COp.out).mono ?_); rintro e w7 ⟨rfl, hb⟩; have n0_ := Aside0.mk (below_step (by repeat (first | (with_reducible first | exact HB.out | apply below_alloc | apply pw_below_drewN | apply below_drew1) | exact HB.out)) hb); clear HB; have HB := n0_; clear n0_ hb))
  go_loop [7] (fun v => v = .slice none 0 0) (fun _ => 0)
  case atStart => rfl
  case round =>
   subst hrel
   go_wp2
   go_quiet (fail)
   go_wp2
   go_ret2
   exact tpost_bad rfl (by repeat (first | (with_reducible first | exact HB.out | apply below_alloc | apply pw_below_drewN | apply below_drew1) | exact HB.out))
theorem rgt_ok (A : Option Addr) (c : Nat) (l : List Int) (W : World) (hr : Kd.C (Kd.int .u8) W A l.length l) (hc : l.length ≤ c) (hl : l.length ≤ 1000000) (hby : ∀ x ∈ l, 0 ≤ x ∧ x < 256) (h : (openL l).2 = true) :
  Calls Tryd.prog 14 #[.slice A l.length c] W (TPost W (sayT (refT (openL l).1.length (openL l).1 (-2) []))) := by
 have HB := Aside0.mk (Below.refl W.heap.size W)
 obtain ⟨A1, m, c1, HC1, hm, hmc, CO⟩ := opened_any A c l W hr hc hl hby
 rw [h] at CO
 have HY : ∀ x ∈ (openL l).1, 0 ≤ x ∧ x < 256 := fun x hx => hby x (openL_mem l x hx)
 have HLe : (openL l).1.length ≤ 1000000 := Nat.le_trans (openL_le l) hl
 generalize (openL l).1 = rest at *
 have COp := Aside0.mk CO
 have HYs := Aside0.mk HY
 have BOX := Aside0.mk (fun w => boxF m A1 c1 rest W w HC1 hm hmc false)
 clear hr hc hby CO HC1 h HY
 go_enter Tryd.func14, Tryd.ntmps14
 go_wp2_with (first | (go_at_call 29; (with_reducible refine (COp.out).mono ?_); rintro e w7 ⟨rfl, hb⟩; have n0_ := Aside0.mk (below_step (by repeat (first | (with_reducible first | exact HB.out | apply below_alloc | apply pw_below_drewN | apply below_drew1) | exact HB.out)) hb); clear HB; have HB := n0_; clear n0_ hb))
 have HRd := Aside0.mk (BOX.out w7)
 have n0_ := Aside0.mk (below_alloc HB.out (.cells #[.slice A1 m c1, .bool false] 66))
 have hgR : W.heap.size ≤ w7.heap.size := below_size HB.out
 clear HB BOX
 have HB := n0_
 clear n0_
 generalize w7.heap.size = R at HRd hgR ⊢
 generalize w7.alloc (.cells #[.slice A1 m c1, .bool false] 66) = w8 at HRd HB ⊢
 go_loopg [7, 8] rest.length (fun f v7 v8 wr => ∃ (l1 : List Int) (last : Int) (t : List Int), v8 = .int .i64 last ∧ Aside0 (RdrF W wr R l1 false) ∧ Aside0 (Kd.R (Kd.int .i64) 3 wr W.heap.size (fun _ => True) v7 t) ∧ Aside0 (Below W.heap.size W wr) ∧ Aside0 (refT rest.length rest (-2) [] = refT f l1 last t) ∧ Aside0 (l1.length ≤ f ∧ l1.length ≤ 1000000) ∧ Aside0 (t.length ≤ 10000) ∧ Aside0 (∀ x ∈ l1, 0 ≤ x ∧ x < 256))
 case atStart => exact ⟨_, -2, [], rfl, HRd, ⟨Kd.R_nil _ _ _ _ _⟩, HB, ⟨rfl⟩, ⟨Nat.le_refl _, HLe⟩, ⟨by decide⟩, HYs⟩
 case round =>
  clear HRd HB HYs
  obtain ⟨l1, last, t, rfl, HRd, HO, HB, HF, HK, HN, HY⟩ := hrel
  obtain ⟨At, ct, rfl⟩ := Kd.R_slice HO.out
  have hN := HN.out
  obtain ⟨A4, c4, BK4, hC4, hc4⟩ := HRd.out
  have hcell0 : wr.cell? ⟨R, 0, none⟩ = some (.slice A4 l1.length c4) := (blk_cell BK4 0).trans rfl
  have hcell1 : wr.cell? ⟨R, 1, none⟩ = some (.bool false) := (blk_cell BK4 1).trans rfl
  clear BK4 hC4 hc4
  by_cases h0 : l1.length = 0
  ·have hz : decide (0 < (l1.length : Int)) = false := decide_eq_false (by omega)
   have hz2 : decide (0 < l1.length) = false := decide_eq_false (by omega)
   have HF2 : Aside0 (refT rest.length rest (-2) [] = some t) := ⟨by rw [HF.out]; cases gk with | zero => rfl | succ f => simp only [refT]; rw [if_pos h0]⟩
   clear h0
   go_wp2
   go_quiet (fail)
   go_wp2
   go_ret2
   refine ⟨_, by rw [HF2.out]; rfl, ?_, (by repeat (first | (with_reducible first | exact HB.out | apply below_alloc | apply pw_below_drewN | apply below_drew1) | exact HB.out))⟩
   rw [HF2.out]
   exact (by (with_reducible repeat (first | apply Kd.R_alloc | apply Kd.R_drewN | apply Kd.R_drew)); exact HO.out)
  ·obtain ⟨f, rfl⟩ : ∃ f, gk = f + 1 := ⟨gk - 1, by have := HK.out.1; omega⟩
   have hz : decide (0 < (l1.length : Int)) = true := decide_eq_true (by omega)
   have hz2 : decide (0 < l1.length) = true := decide_eq_true (by omega)
   have hL1 : l1.length ≤ 1000000 := HK.out.2
   have NUM1 := Aside0.mk (num_c W wr R l1 false HRd.out HB.out hgR HY.out hL1)
   have NUM2 := Aside0.mk (fun (w : World) (hR : RdrF W w R (mR l1 false) (mB l1 false)) (hB : Below W.heap.size W w) => num_c W w R (mR l1 false) (mB l1 false) hR hB hgR (fun x hx => HY.out x (mR_mem _ _ x hx)) (Nat.le_trans (mR_le l1 false) hL1))
   have bd1 := mV_bd l1 false HY.out
   have bd2 := mV_bd (mR l1 false) (mB l1 false) (fun x hx => HY.out x (mR_mem _ _ x hx))
   have HLT := Aside0.mk (mR_lt l1 HY.out)
   have HY3 := Aside0.mk (fun x (hx : x ∈ mR (mR l1 false) (mB l1 false)) => HY.out x (mR_mem _ _ x (mR_mem _ _ x hx)))
   have hF := HF.out
   simp only [refT] at hF
   rw [if_neg h0] at hF
   clear h0 HF HY hL1
   generalize mV (mR l1 false) (mB l1 false) = V at *
   generalize mR (mR l1 false) (mB l1 false) = l3 at *
   generalize mB (mR l1 false) (mB l1 false) = b3 at *
   generalize mV l1 false = N at *
   generalize mR l1 false = l2 at *
   generalize mB l1 false = b2 at *
   by_cases hb3 : b3 = true
   ·subst hb3
    rw [if_pos (.inl rfl)] at hF
    have HF := Aside0.mk hF
    clear hF
    go_wp2_with (first | (go_at_call 30; (with_reducible refine (NUM1.out).mono ?_); rintro e w9 ⟨rfl, hRd, hB, hK⟩; have n0_ := Aside0.mk hRd; have n1_ := Aside0.mk hB; have n2_ := Aside0.mk (RF_num HO.out HRd.out hK); clear HRd HB HO; have HRd := n0_; have HB := n1_; have HO := n2_; clear n0_ n1_ n2_ hRd hB hK) | (go_at_call 30; (with_reducible refine (NUM2.out _ HRd.out HB.out).mono ?_); rintro e w10 ⟨rfl, hRd, hB, hK⟩; obtain ⟨A5, c5, BK5, _, _⟩ := id hRd; have hcell2 := (blk_cell BK5 1).trans rfl; have n0_ := Aside0.mk hRd; have n1_ := Aside0.mk hB; have n2_ := Aside0.mk (RF_num HO.out HRd.out hK); clear BK5 HRd HB HO; have HRd := n0_; have HB := n1_; have HO := n2_; clear n0_ n1_ n2_ hRd hB hK))
    go_ret2
    exact tpost_bad (by rw [HF.out]; rfl) HB.out
   obtain rfl : b3 = false := by cases b3 with | true => exact absurd rfl hb3 | false => rfl
   by_cases hn1 : N < 1
   ·rw [if_pos (.inr (.inl hn1))] at hF
    have HF := Aside0.mk hF
    have d1 : decide (N < 1) = true := decide_eq_true hn1
    clear hF
    go_wp2_with (first | (go_at_call 30; (with_reducible refine (NUM1.out).mono ?_); rintro e w9 ⟨rfl, hRd, hB, hK⟩; have n0_ := Aside0.mk hRd; have n1_ := Aside0.mk hB; have n2_ := Aside0.mk (RF_num HO.out HRd.out hK); clear HRd HB HO; have HRd := n0_; have HB := n1_; have HO := n2_; clear n0_ n1_ n2_ hRd hB hK) | (go_at_call 30; (with_reducible refine (NUM2.out _ HRd.out HB.out).mono ?_); rintro e w10 ⟨rfl, hRd, hB, hK⟩; obtain ⟨A5, c5, BK5, _, _⟩ := id hRd; have hcell2 := (blk_cell BK5 1).trans rfl; have n0_ := Aside0.mk hRd; have n1_ := Aside0.mk hB; have n2_ := Aside0.mk (RF_num HO.out HRd.out hK); clear BK5 HRd HB HO; have HRd := n0_; have HB := n1_; have HO := n2_; clear n0_ n1_ n2_ hRd hB hK))
    go_ret2
    exact tpost_bad (by rw [HF.out]; rfl) HB.out
   have d1 : decide (N < 1) = false := decide_eq_false hn1
   by_cases hn2 : N > 10000 - (t.length : Int)
   ·rw [if_pos (.inr (.inr (.inl hn2)))] at hF
    have HF := Aside0.mk hF
    have d2 : decide (10000 - (t.length : Int) < N) = true := decide_eq_true hn2
    clear hF
    go_wp2_with (first | (go_at_call 30; (with_reducible refine (NUM1.out).mono ?_); rintro e w9 ⟨rfl, hRd, hB, hK⟩; have n0_ := Aside0.mk hRd; have n1_ := Aside0.mk hB; have n2_ := Aside0.mk (RF_num HO.out HRd.out hK); clear HRd HB HO; have HRd := n0_; have HB := n1_; have HO := n2_; clear n0_ n1_ n2_ hRd hB hK) | (go_at_call 30; (with_reducible refine (NUM2.out _ HRd.out HB.out).mono ?_); rintro e w10 ⟨rfl, hRd, hB, hK⟩; obtain ⟨A5, c5, BK5, _, _⟩ := id hRd; have hcell2 := (blk_cell BK5 1).trans rfl; have n0_ := Aside0.mk hRd; have n1_ := Aside0.mk hB; have n2_ := Aside0.mk (RF_num HO.out HRd.out hK); clear BK5 HRd HB HO; have HRd := n0_; have HB := n1_; have HO := n2_; clear n0_ n1_ n2_ hRd hB hK))
    go_ret2
    exact tpost_bad (by rw [HF.out]; rfl) HB.out
   have d2 : decide (10000 - (t.length : Int) < N) = false := decide_eq_false hn2
   by_cases hn3 : V - 1 > 199
   ·rw [if_pos (.inr (.inr (.inr (.inl hn3))))] at hF
    have HF := Aside0.mk hF
    have d3 : decide (199 < V - 1) = true := decide_eq_true hn3
    clear hF
    go_wp2_with (first | (go_at_call 30; (with_reducible refine (NUM1.out).mono ?_); rintro e w9 ⟨rfl, hRd, hB, hK⟩; have n0_ := Aside0.mk hRd; have n1_ := Aside0.mk hB; have n2_ := Aside0.mk (RF_num HO.out HRd.out hK); clear HRd HB HO; have HRd := n0_; have HB := n1_; have HO := n2_; clear n0_ n1_ n2_ hRd hB hK) | (go_at_call 30; (with_reducible refine (NUM2.out _ HRd.out HB.out).mono ?_); rintro e w10 ⟨rfl, hRd, hB, hK⟩; obtain ⟨A5, c5, BK5, _, _⟩ := id hRd; have hcell2 := (blk_cell BK5 1).trans rfl; have n0_ := Aside0.mk hRd; have n1_ := Aside0.mk hB; have n2_ := Aside0.mk (RF_num HO.out HRd.out hK); clear BK5 HRd HB HO; have HRd := n0_; have HB := n1_; have HO := n2_; clear n0_ n1_ n2_ hRd hB hK))
    go_ret2
    exact tpost_bad (by rw [HF.out]; rfl) HB.out
   have d3 : decide (199 < V - 1) = false := decide_eq_false hn3
   by_cases hn4 : V - 1 = last
   ·rw [if_pos (.inr (.inr (.inr (.inr hn4))))] at hF
    have HF := Aside0.mk hF
    have d4 : (V - 1 == last) = true := beq_iff_eq.2 hn4
    clear hF
    go_wp2_with (first | (go_at_call 30; (with_reducible refine (NUM1.out).mono ?_); rintro e w9 ⟨rfl, hRd, hB, hK⟩; have n0_ := Aside0.mk hRd; have n1_ := Aside0.mk hB; have n2_ := Aside0.mk (RF_num HO.out HRd.out hK); clear HRd HB HO; have HRd := n0_; have HB := n1_; have HO := n2_; clear n0_ n1_ n2_ hRd hB hK) | (go_at_call 30; (with_reducible refine (NUM2.out _ HRd.out HB.out).mono ?_); rintro e w10 ⟨rfl, hRd, hB, hK⟩; obtain ⟨A5, c5, BK5, _, _⟩ := id hRd; have hcell2 := (blk_cell BK5 1).trans rfl; have n0_ := Aside0.mk hRd; have n1_ := Aside0.mk hB; have n2_ := Aside0.mk (RF_num HO.out HRd.out hK); clear BK5 HRd HB HO; have HRd := n0_; have HB := n1_; have HO := n2_; clear n0_ n1_ n2_ hRd hB hK))
    go_ret2
    exact tpost_bad (by rw [HF.out]; rfl) HB.out
   have d4 : (V - 1 == last) = false := beq_eq_false_iff_ne.2 hn4
   rw [if_neg (by simp only [not_or]; exact ⟨by decide, hn1, hn2, hn3, hn4⟩)] at hF
   have HF := Aside0.mk hF
   have HBig := Aside0.mk hn2
   clear hF hn2 hn4 hn3
   go_wp2_with (first | (go_at_call 30; (with_reducible refine (NUM1.out).mono ?_); rintro e w9 ⟨rfl, hRd, hB, hK⟩; have n0_ := Aside0.mk hRd; have n1_ := Aside0.mk hB; have n2_ := Aside0.mk (RF_num HO.out HRd.out hK); clear HRd HB HO; have HRd := n0_; have HB := n1_; have HO := n2_; clear n0_ n1_ n2_ hRd hB hK) | (go_at_call 30; (with_reducible refine (NUM2.out _ HRd.out HB.out).mono ?_); rintro e w10 ⟨rfl, hRd, hB, hK⟩; obtain ⟨A5, c5, BK5, _, _⟩ := id hRd; have hcell2 := (blk_cell BK5 1).trans rfl; have n0_ := Aside0.mk hRd; have n1_ := Aside0.mk hB; have n2_ := Aside0.mk (RF_num HO.out HRd.out hK); clear BK5 HRd HB HO; have HRd := n0_; have HB := n1_; have HO := n2_; clear n0_ n1_ n2_ hRd hB hK))
   go_loopw [7, 11] (fun v7 v11 wr => ∃ (j : Nat), v11 = .int .i64 j ∧ (j : Int) ≤ N ∧ Aside0 (RdrF W wr R l3 false) ∧ Aside0 (Kd.R (Kd.int .i64) 3 wr W.heap.size (fun _ => True) v7 (t ++ List.replicate j (V - 1))) ∧ Aside0 (Below W.heap.size W wr)) (fun _ v11 _ => (N - intOf v11).toNat)
   case atStart => exact ⟨0, rfl, by omega, HRd, ⟨by rw [List.replicate_zero, List.append_nil]; exact HO.out⟩, HB⟩
   case round =>
    clear HRd HO HB hcell2
    obtain ⟨j, rfl, hj, HRd, HO, HB⟩ := hrel
    by_cases hjl : (j : Int) < N
    ·have hjd : decide ((j : Int) < N) = true := decide_eq_true hjl
     obtain ⟨q, hqq⟩ : ∃ q, q = t ++ List.replicate j (V - 1) := ⟨_, rfl⟩
     rw [← hqq] at HO
     have HQ := Aside0.mk hqq
     clear hqq
     obtain ⟨Av, cv, rfl⟩ := Kd.R_slice HO.out
     have HNe := Aside0.mk (show some R ≠ (Value.slice Av q.length cv).ownBlock from by obtain ⟨_, _, BK, _⟩ := HRd.out; exact Kd.R_ne HO.out BK (by decide))
     have HLn := Aside0.mk (show q.length ≤ 10000 by rw [HQ.out, List.length_append, List.length_replicate]; have := HBig.out; omega)
     go_wp2_with (first | ((with_reducible refine gate_builtin (b := .append) (xs := #[.tmp 70, .tmp 72]) rfl ?_); at_builtin; refine Kd.R_append (Kd.int .i64) (w0 := W) W.heap.size rfl (.tmp 70) (.tmp 72) 23 3 (.int .i64 0) 8 rfl Tryd.underlying23 infoI rfl (by decide) (by omega) (.slice Av q.length cv) q (V - 1) [.int .i64 (V - 1)] (fun _ => True) (fun _ => False) rfl rfl ?aP (fun _ hk => hk.elim) ?aF ?aO ?aB ?aS ?aL ?_; (case aP => exact rfl); (case aF => exact (fun _ _ => trivial)); (case aO => exact (by (with_reducible repeat (first | apply Kd.R_alloc | apply Kd.R_drewN | apply Kd.R_drew)); exact HO.out)); (case aB => exact (by repeat (first | (with_reducible first | exact HB.out | apply below_alloc | apply pw_below_drewN | apply below_drew1) | exact HB.out))); (case aS => exact (below_size (by repeat (first | (with_reducible first | exact HB.out | apply below_alloc | apply pw_below_drewN | apply below_drew1) | exact HB.out)))); (case aL => have := HLn.out; omega); intro v1 w1 ho hb hg hat; have HO2 := Aside0.mk ho; have HB2 := Aside0.mk hb; have HRd3 := Aside0.mk (RdrF_grown HRd.out hg HNe.out); clear ho hb hg hat))
     exact ⟨⟨j + 1, by go_num, by omega, HRd3, ⟨by rw [List.replicate_succ', ← List.append_assoc, ← HQ.out]; exact HO2.out⟩, HB2⟩, by simp [intOf]; omega⟩
    ·have hjd : decide ((j : Int) < N) = false := decide_eq_false hjl
     go_wp2
     go_roundg f
     case measure => omega
     case rel => exact ⟨l3, V - 1, t ++ List.replicate j (V - 1), rfl, HRd, HO, HB, ⟨by rw [HF.out, show N.toNat = j by omega]⟩, ⟨by have h1 : l3.length < l1.length := (by first | exact HLT.out rfl | exact HLT.out trivial | exact HLT.out); have h2 := HK.out; omega⟩, ⟨by rw [List.length_append, List.length_replicate]; have := HBig.out; omega⟩, HY3⟩
theorem rgt_c (A : Option Addr) (c : Nat) (l : List Int) (W : World) (hr : Kd.C (Kd.int .u8) W A l.length l) (hc : l.length ≤ c) (hl : l.length ≤ 1000000) (hby : ∀ x ∈ l, 0 ≤ x ∧ x < 256) :
  Calls Tryd.prog 14 #[.slice A l.length c] W (TPost W (readRT l)) := by
 unfold readRT
 cases h : (openL l).2 with
 | false => exact rgt_bad A c l W hr hc hl hby h
 | true => exact rgt_ok A c l W hr hc hl hby h

end Go.Proofs.YtpgfecaomdioeaaDoor.PCt
