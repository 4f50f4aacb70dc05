/- The contract of codec's GetTrace. -/
import Derived.Test.YtpgfecaomdioeaaDoorPCtx2
import Derived.Test.YtpgfecaomdioeaaDoorCodWhole
namespace Go.Proofs.YtpgfecaomdioeaaDoor.PCt
open Go.RowKit Go.Proofs.YtpgfecaomdioeaaDoor.PCt Go.Proofs.YtpgfecaomdioeaaDoorW.PrintWords Go.Proofs.YtpgfecaomdioeaaDoorW.PrintLast Go.Proofs.YtpgfecaomdioeaaDoorW.PrintMore 
set_option linter.unusedVariables false
set_option linter.unusedSimpArgs false

theorem infoI : (Tryd.prog.info? 3).map (fun i => (i.zero, i.size, i.bytes)) = some (some (.int .i64 0), 1, 8) := by kernel_rfl
def nV (l : List Int) : Int := match numL l 0 0 with | none => 0 | some (x, _) => x
def nR (l : List Int) : List Int := match numL l 0 0 with | none => [] | some (_, k) => l.drop k
def nB (l : List Int) (bad : Bool) : Bool := match numL l 0 0 with | none => true | some _ => bad
theorem numL_bd : ∀ (l : List Int) (i : Nat) (n : Int) (x : Int) (k : Nat), (∀ c ∈ l, 0 ≤ c ∧ c < 256) → 0 ≤ n → numL l i n = some (x, k) → 0 ≤ x ∧ x ≤ 2147483647 ∧ i < k
  | [], _, _, _, _, _, _, h => by cases h
  | c :: t, i, n, x, k, hb, hn, h => by
    have hc := hb c (List.mem_cons_self ..)
    have hm : 0 ≤ c % 128 * 128 ^ i := Int.mul_nonneg (by omega) (Int.pow_nonneg (by decide))
    simp only [numL] at h
    split at h
    · cases h
    split at h
    · have := numL_bd t (i + 1) _ x k (fun y hy => hb y (List.mem_cons_of_mem _ hy)) (by omega) h
      omega
    split at h
    · cases h
    · injection h with h
      injection h with h1 h2
      omega
theorem nV_bd (l : List Int) (hb : ∀ c ∈ l, 0 ≤ c ∧ c < 256) : 0 ≤ nV l ∧ nV l ≤ 2147483647 := by
  unfold nV
  cases h : numL l 0 0 with
  | none => decide
  | some p =>
    have := numL_bd l 0 0 p.1 p.2 hb (by omega) h
    exact ⟨this.1, this.2.1⟩
theorem nR_lt (l : List Int) (hb : ∀ c ∈ l, 0 ≤ c ∧ c < 256) (hl : 0 < l.length) : (nR l).length < l.length := by
  unfold nR
  cases h : numL l 0 0 with
  | none => simpa using hl
  | some p =>
    have := numL_bd l 0 0 p.1 p.2 hb (by omega) h
    show (l.drop p.2).length < l.length
    rw [List.length_drop]
    omega
theorem nR_le (l : List Int) : (nR l).length ≤ l.length := by
  unfold nR
  cases h : numL l 0 0 with
  | none => simp
  | some p => show (l.drop p.2).length ≤ l.length; rw [List.length_drop]; omega
theorem nR_mem (l : List Int) (c : Int) (h : c ∈ nR l) : c ∈ l := by
  unfold nR at h
  cases hn : numL l 0 0 with
  | none => rw [hn] at h; cases h
  | some p => rw [hn] at h; exact List.mem_of_mem_drop h
theorem number_s (W0 W : World) (R : Nat) (l : List Int) (bad : Bool) (hR : RdrV W0 W R l bad) (hB : Below W0.heap.size W0 W) (hg : W0.heap.size ≤ R) (hb : ∀ x ∈ l, 0 ≤ x ∧ x < 256) :
    Calls Tryd.prog 22 #[.pointer (some ⟨R, 0, none⟩)] W fun e w' => e = .returned (.int .i64 (nV l)) ∧ RdrV W0 w' R (nR l) (nB l bad) ∧ Below W0.heap.size W0 w' ∧ KeepBut W w' R none := by
  refine (number_c W0 W R l bad hR hB hg hb).mono ?_
  intro e w' h
  unfold NumPost at h
  unfold nV nR nB
  cases hn : numL l 0 0 with
  | none => rw [hn] at h; exact ⟨h.1.1, h.1.2, h.2⟩
  | some p => rw [hn] at h; exact ⟨h.1.1, h.1.2, h.2⟩
/-- What a trace's bytes come to: none: more ticks than may be. -/
def getL : Nat → List Int → Bool → List Int → Option (List Int × Bool)
  | 0, _, bad, t => some (t, bad)
  | f + 1, l, bad, t => if l.length = 0 then some (t, bad) else if nV l > 10000 - (t.length : Int) then none else
      getL f (nR (nR l)) (nB (nR l) (nB l bad)) (t ++ List.replicate (nV l).toNat (nV (nR l) - 1))
theorem R_num {W0 W w' : World} {R : Nat} {l : List Int} {bad : Bool} {v : Value} {t : List Int} (h : Kd.R (Kd.int .i64) 3 W W0.heap.size (fun _ => True) v t) (hR : RdrV W0 W R l bad) (hk : KeepBut W w' R none) : Kd.R (Kd.int .i64) 3 w' W0.heap.size (fun _ => True) v t := by
  obtain ⟨A, c, BK, _⟩ := hR
  exact Kd.R_mono (Kd.R_keep (Kd.R_types h BK (fun q hq => by simp [Kd.int, Kd.scalar] at hq; subst hq; decide)) hk (fun _ hk => hk.2)) (fun _ _ => trivial)
theorem RdrV_grown {W0 W w' : World} {R : Nat} {l : List Int} {bad : Bool} {v : Value} {t : List Int} {row : Option Nat} (hR : RdrV W0 W R l bad) (hg : W.grownBy w' row) (hne : some R ≠ row) : RdrV W0 w' R l bad := by
  obtain ⟨A, c, BK, h⟩ := hR
  exact ⟨A, c, blk_grown BK hg hne, h⟩
theorem RdrV_alloc {W0 W : World} {R : Nat} {l : List Int} {bad : Bool} (hR : RdrV W0 W R l bad) (o : Obj) : RdrV W0 (W.alloc o) R l bad := by
  obtain ⟨A, c, BK, h⟩ := hR
  exact ⟨A, c, blk_alloc BK o, h⟩
def getT (putT : List Int → List Int) (l : List Int) (wb : Bool) : Option (List Int) :=
  if l.length < 4 then none else if wb = false then none else
    match getL (l.length - 4) (l.take (l.length - 4)) false [] with
    | none => none
    | some (t, bad) => if bad = true then none else if putT t = l then some t else none
def GetPost (W : World) (r : Option (List Int)) (e : Ending) (w' : World) : Prop :=
  (match r with | none => e = .returned (.tuple #[.slice none 0 0, .int .i64 3]) | some t => ∃ v, e = .returned (.tuple #[v, .int .i64 0]) ∧ Kd.R (Kd.int .i64) 3 w' W.heap.size (fun _ => True) v t) ∧ Below W.heap.size W w'
theorem getP_none {W w' : World} {r : Option (List Int)} (h : r = none) (hb : Below W.heap.size W w') : GetPost W r (.returned (.tuple #[.slice none 0 0, .int .i64 3])) w' := by
  subst h
  exact ⟨rfl, hb⟩
set_option maxHeartbeats 4000000 in
set_option maxRecDepth 100000 in
theorem get_short (A : Option Addr) (c : Nat) (l : List Int) (W : World) (h : l.length < 4) :
    Calls Tryd.prog 7 #[.slice A l.length c] W fun e w' => e = .returned (.tuple #[.slice none 0 0, .int .i64 3]) ∧ Below W.heap.size W w' := by
  have HB := Aside0.mk (Below.refl W.heap.size W)
  have CW := Aside0.mk (whole_short A c l W h)
  go_enter Tryd.func7, Tryd.ntmps7
  go_wp2_with (first | (go_at_call 21; (with_reducible refine (CW.out).mono ?_); rintro e w7 ⟨rfl, hb⟩; have n0_ := Aside0.mk (below_step (by repeat (first | (with_reducible first | exact HB.out | apply below_alloc | apply pw_below_drewN | apply below_drew1) | exact HB.out)) hb); clear HB; have HB := n0_; clear n0_ hb))
  go_ret2
  exact ⟨rfl, (by repeat (first | (with_reducible first | exact HB.out | apply below_alloc | apply pw_below_drewN | apply below_drew1) | exact HB.out))⟩
set_option maxHeartbeats 4000000 in
set_option maxRecDepth 100000 in
theorem get_torn (k : Nat) (A : Option Addr) (c : Nat) (l : List Int) (W : World) (hr : Kd.C (Kd.int .u8) W A l.length l) (hc : l.length ≤ c) (hl : l.length ≤ 1000000) (h : 4 ≤ l.length) (hs : wholeB k l = some false) :
    Calls Tryd.prog 7 #[.slice A l.length c] W fun e w' => e = .returned (.tuple #[.slice none 0 0, .int .i64 3]) ∧ Below W.heap.size W w' := by
  have HB := Aside0.mk (Below.refl W.heap.size W)
  have CW := Aside0.mk (whole_c k A c l W false hr hc (by omega) h hs)
  clear hr hs
  go_enter Tryd.func7, Tryd.ntmps7
  go_wp2_with (first | (go_at_call 21; (with_reducible refine (CW.out).mono ?_); rintro e w7 ⟨rfl, hb⟩; have n0_ := Aside0.mk (below_step (by repeat (first | (with_reducible first | exact HB.out | apply below_alloc | apply pw_below_drewN | apply below_drew1) | exact HB.out)) hb); clear HB; have HB := n0_; clear n0_ hb))
  go_ret2
  exact ⟨rfl, (by repeat (first | (with_reducible first | exact HB.out | apply below_alloc | apply pw_below_drewN | apply below_drew1) | exact HB.out))⟩
set_option maxHeartbeats 8000000 in
set_option maxRecDepth 100000 in
theorem get_whole (k : Nat) (putT : List Int → List Int) (A : Option Addr) (c : Nat) (l : List Int) (W : World) (hr : Kd.C (Kd.int .u8) W A l.length l) (hc : l.length ≤ c) (hl : l.length ≤ 1000000) (h : 4 ≤ l.length) (hby : ∀ x ∈ l, 0 ≤ x ∧ x < 256) (hs : wholeB k l = some true)
    (hp : ∀ t, t.length ≤ 10000 → codec_PutTrace.f k t = some (putT t)) (he : ∀ t, t.length ≤ 10000 → bytes_Equal.f (putT t) l = some (decide (putT t = l))) :
    Calls Tryd.prog 7 #[.slice A l.length c] W (GetPost W (getT putT l true)) := by
  have HB := Aside0.mk (Below.refl W.heap.size W)
  have CW := Aside0.mk (whole_c k A c l W true hr hc (by omega) h hs)
  have HT := Aside0.mk (Kd.C_take (m := l.length - 4) hr (by omega))
  have HL := Aside0.mk (show (l.take (l.length - 4)).length = l.length - 4 by rw [List.length_take]; omega)
  have HY := Aside0.mk (fun x (hx : x ∈ l.take (l.length - 4)) => hby x (List.mem_of_mem_take hx))
  have HR := Aside0.mk hr
  have HP := Aside0.mk hp
  have HE := Aside0.mk he
  obtain ⟨m, hm⟩ : ∃ m, m = l.length - 4 := ⟨_, rfl⟩
  have HG : Aside0 (getT putT l true = match getL m (l.take m) false [] with | none => none | some (t, bad) => if bad = true then none else if putT t = l then some t else none) := ⟨by unfold getT; rw [if_neg (by omega), if_neg (by decide), ← hm]⟩
  rw [← hm] at CW HT HL HY
  have hmc : m ≤ c := by omega
  clear hr hs hp he hby hm
  go_enter Tryd.func7, Tryd.ntmps7
  go_wp2_with (first | (go_at_call 21; (with_reducible refine (CW.out).mono ?_); rintro e w7 ⟨rfl, hb⟩; have n0_ := Aside0.mk (below_step (by repeat (first | (with_reducible first | exact HB.out | apply below_alloc | apply pw_below_drewN | apply below_drew1) | exact HB.out)) hb); clear HB; have HB := n0_; clear n0_ hb))
  have HRd : Aside0 (RdrV W (w7.alloc (.cells #[.slice A m c, .bool false] 54)) w7.heap.size (l.take m) false) := ⟨⟨A, c, by rw [HL.out]; exact blk_new _ _, HT.out, by rw [HL.out]; exact hmc⟩⟩
  have n0_ := Aside0.mk (below_alloc HB.out (.cells #[.slice A m c, .bool false] 54))
  have hgR : W.heap.size ≤ w7.heap.size := below_size HB.out
  have hlen : (l.take m).length ≤ m := by rw [HL.out]; exact Nat.le_refl _
  clear HB
  have HB := n0_
  clear n0_
  generalize w7.heap.size = R at HRd hgR ⊢
  generalize w7.alloc (.cells #[.slice A m c, .bool false] 54) = w8 at HRd HB ⊢
  go_loopg [7] m (fun f v7 wr => ∃ (l1 : List Int) (bad : Bool) (t : List Int), Aside0 (RdrV W wr R l1 bad) ∧ Aside0 (Kd.R (Kd.int .i64) 3 wr W.heap.size (fun _ => True) v7 t) ∧ Aside0 (Below W.heap.size W wr) ∧ Aside0 (getL m (l.take m) false [] = getL f l1 bad t) ∧ Aside0 (l1.length ≤ f) ∧ Aside0 (t.length ≤ 10000) ∧ Aside0 (∀ x ∈ l1, 0 ≤ x ∧ x < 256))
  case atStart => exact ⟨_, _, [], HRd, ⟨Kd.R_nil _ _ _ _ _⟩, HB, ⟨rfl⟩, ⟨hlen⟩, ⟨by decide⟩, HY⟩
  case round =>
    clear HRd HB hlen HY
    obtain ⟨l1, bad, t, HRd, HO, HB, HF, HK, HN, HY⟩ := hrel
    obtain ⟨At, ct, rfl⟩ := Kd.R_slice HO.out
    have hN := HN.out
    obtain ⟨A1, c1, BK, hC1, hc1⟩ := HRd.out
    have hcell0 : wr.cell? ⟨R, 0, none⟩ = some (.slice A1 l1.length c1) := (blk_cell BK 0).trans rfl
    have hcell1 : wr.cell? ⟨R, 1, none⟩ = some (.bool bad) := (blk_cell BK 1).trans rfl
    clear BK hC1 hc1
    by_cases h0 : l1.length = 0
    · have hz : decide (0 < (l1.length : Int)) = false := decide_eq_false (by omega)
      have hz2 : decide (0 < l1.length) = false := decide_eq_false (by omega)
      have hz3 : l1 = [] := List.eq_nil_of_length_eq_zero h0
      subst hz3
      have HF2 : Aside0 (getL m (l.take m) false [] = some (t, bad)) := ⟨by rw [HF.out]; cases gk with | zero => rfl | succ f => simp only [getL]; rw [if_pos h0]⟩
      clear h0
      cases bad with
      | true =>
        go_wp2
        go_ret2
        exact getP_none (by rw [HG.out, HF2.out]; rfl) HB.out
      | false =>
        have HPt := HP.out t HN.out
        have HEt := HE.out t HN.out
        have CP : Aside0 (∀ W', Below W.heap.size W W' → Kd.C (Kd.int .i64) W' At t.length t → Calls Tryd.prog 10 #[.slice At t.length ct] W' fun e w' => ∃ A' c', e = .returned (.slice A' (putT t).length c') ∧ Aside0 (Kd.C (Kd.int .u8) w' A' (putT t).length (putT t) ∧ (putT t).length ≤ c') ∧ Below W'.heap.size W' w') :=
          ⟨fun W' hb hC => (codec_PutTrace.calls k At ct t _ W' hC (Kd.R_reads' HO.out).2.1 HPt).mono (by rintro e w' ⟨v', rfl, hR', hb'⟩; obtain ⟨A', c', rfl⟩ := Kd.R_slice hR'; exact ⟨A', c', rfl, ⟨(Kd.R_reads' hR').2.2, (Kd.R_reads' hR').2.1⟩, hb'⟩)⟩
        have CE : Aside0 (∀ W' A' c', Below W.heap.size W W' → Aside0 (Kd.C (Kd.int .u8) W' A' (putT t).length (putT t) ∧ (putT t).length ≤ c') → Calls Tryd.prog 23 #[.slice A' (putT t).length c', .slice A l.length c] W' fun e w' => e = .returned (.bool (decide (putT t = l))) ∧ Below W'.heap.size W' w') :=
          ⟨fun W' A' c' hb hC => (bytes_Equal.calls A' c' (putT t) A c l _ W' hC.out.1 hC.out.2 (Kd.C_below HR.out hb) hc HEt).mono (by rintro e w' ⟨rfl, n, rfl⟩; exact ⟨rfl, pw_below_drewN (Below.refl _ _) n⟩)⟩
        clear HPt HEt
        by_cases hq : putT t = l
        · rw [decide_eq_true hq] at CE
          have HQ := Aside0.mk hq
          clear hq
          go_wp2_with (first | (go_at_call 10; (with_reducible refine (CP.out _ HB.out (Kd.R_reads' HO.out).2.2).mono ?_); rintro e w9 ⟨A', c', rfl, hCv, hb⟩; have n0_ := Aside0.mk (below_step HB.out hb); have n1_ := Aside0.mk (Kd.R_below HO.out hb); clear HB HO; have HB := n0_; have HO := n1_; clear n0_ n1_ hb) | (go_at_call 23; (with_reducible refine (CE.out _ _ _ HB.out hCv).mono ?_); rintro e w10 ⟨rfl, hb⟩; have n0_ := Aside0.mk (below_step HB.out hb); have n1_ := Aside0.mk (Kd.R_below HO.out hb); clear HB HO; have HB := n0_; have HO := n1_; clear n0_ n1_ hb))
          go_ret2
          refine ⟨?_, HB.out⟩
          rw [HG.out, HF2.out]
          show (match (if putT t = l then some t else none) with | none => _ | some t => _)
          rw [if_pos HQ.out]
          exact ⟨_, rfl, HO.out⟩
        · rw [decide_eq_false hq] at CE
          have HQ := Aside0.mk hq
          clear hq
          go_wp2_with (first | (go_at_call 10; (with_reducible refine (CP.out _ HB.out (Kd.R_reads' HO.out).2.2).mono ?_); rintro e w9 ⟨A', c', rfl, hCv, hb⟩; have n0_ := Aside0.mk (below_step HB.out hb); clear HB; have HB := n0_; clear n0_ hb) | (go_at_call 23; (with_reducible refine (CE.out _ _ _ HB.out hCv).mono ?_); rintro e w10 ⟨rfl, hb⟩; have n0_ := Aside0.mk (below_step HB.out hb); clear HB; have HB := n0_; clear n0_ hb))
          go_ret2
          exact getP_none (by rw [HG.out, HF2.out]; show (if putT t = l then some t else none) = none; rw [if_neg HQ.out]) HB.out
    · obtain ⟨f, rfl⟩ : ∃ f, gk = f + 1 := ⟨gk - 1, by have := HK.out; omega⟩
      have hz : decide (0 < (l1.length : Int)) = true := decide_eq_true (by omega)
      have hz2 : decide (0 < l1.length) = true := decide_eq_true (by omega)
      have hz3 : 0 < l1.length := by omega
      have b1 := nV_bd l1 HY.out
      have b2 := nV_bd (nR l1) (fun x hx => HY.out x (nR_mem _ x hx))
      have H0' := Aside0.mk hz3
      have HY0 := HY
      have hF := HF.out
      simp only [getL] at hF
      rw [if_neg h0] at hF
      clear h0 HF
      by_cases hbig : nV l1 > 10000 - (t.length : Int)
      · rw [if_pos hbig] at hF
        have HF := Aside0.mk hF
        have hq : decide (10000 - (t.length : Int) < nV l1) = true := decide_eq_true (by omega)
        clear hF hbig
        go_wp2_with (first | (go_at_call 22; (with_reducible refine (number_s W _ R _ _ HRd.out HB.out hgR HY.out).mono ?_); rintro e w9 ⟨rfl, hRd, hB, hK⟩; have n0_ := Aside0.mk hRd; have n1_ := Aside0.mk hB; have n2_ := Aside0.mk (R_num HO.out HRd.out hK); have n3_ := Aside0.mk (fun x (hx : x ∈ nR _) => HY.out x (nR_mem _ x hx)); clear HRd HB HO HY; have HRd := n0_; have HB := n1_; have HO := n2_; have HY := n3_; clear n0_ n1_ n2_ n3_ hRd hB hK))
        go_ret2
        exact getP_none (by rw [HG.out, HF.out]) HB.out
      · rw [if_neg hbig] at hF
        have HF := Aside0.mk hF
        have hq : decide (10000 - (t.length : Int) < nV l1) = false := decide_eq_false (by omega)
        have HBig := Aside0.mk hbig
        clear hF hbig
        go_wp2_with (first | (go_at_call 22; (with_reducible refine (number_s W _ R _ _ HRd.out HB.out hgR HY.out).mono ?_); rintro e w9 ⟨rfl, hRd, hB, hK⟩; have n0_ := Aside0.mk hRd; have n1_ := Aside0.mk hB; have n2_ := Aside0.mk (R_num HO.out HRd.out hK); have n3_ := Aside0.mk (fun x (hx : x ∈ nR _) => HY.out x (nR_mem _ x hx)); clear HRd HB HO HY; have HRd := n0_; have HB := n1_; have HO := n2_; have HY := n3_; clear n0_ n1_ n2_ n3_ hRd hB hK))
        have HRd2 := HRd
        go_loopw [7, 37] (fun v7 v37 wr => ∃ (j : Nat), v37 = .int .i64 j ∧ (j : Int) ≤ nV l1 ∧ Aside0 (RdrV W wr R (nR (nR l1)) (nB (nR l1) (nB l1 bad))) ∧ Aside0 (Kd.R (Kd.int .i64) 3 wr W.heap.size (fun _ => True) v7 (t ++ List.replicate j (nV (nR l1) - 1))) ∧ Aside0 (Below W.heap.size W wr)) (fun _ v37 _ => (nV l1).toNat - (intOf v37).toNat)
        case atStart => exact ⟨0, rfl, by omega, HRd, ⟨by rw [List.replicate_zero, List.append_nil]; exact HO.out⟩, HB⟩
        case round =>
          clear HRd HRd2 HO HB
          obtain ⟨j, rfl, hj, HRd, HO, HB⟩ := hrel
          by_cases hjl : (j : Int) < nV l1
          · have hjd : decide ((j : Int) < nV l1) = true := decide_eq_true hjl
            obtain ⟨q, hqq⟩ : ∃ q, q = t ++ List.replicate j (nV (nR l1) - 1) := ⟨_, rfl⟩
            rw [← hqq] at HO
            have HQ := Aside0.mk hqq
            clear hqq
            obtain ⟨Av, cv, rfl⟩ := Kd.R_slice HO.out
            have HNe := Aside0.mk (show some R ≠ (Value.slice Av q.length cv).ownBlock from by obtain ⟨_, _, BK, _⟩ := HRd.out; exact Kd.R_ne HO.out BK (by decide))
            have HLn := Aside0.mk (show q.length ≤ 10000 by rw [HQ.out, List.length_append, List.length_replicate]; have := HBig.out; omega)
            go_wp2_with (first | ((with_reducible refine gate_builtin (b := .append) (xs := #[.tmp 39, .tmp 41]) rfl ?_); at_builtin; refine Kd.R_append (Kd.int .i64) (w0 := W) W.heap.size rfl (.tmp 39) (.tmp 41) 23 3 (.int .i64 0) 8 rfl Tryd.underlying23 infoI rfl (by decide) (by omega) (.slice Av q.length cv) q (nV (nR l1) - 1) [.int .i64 (nV (nR l1) - 1)] (fun _ => True) (fun _ => False) rfl rfl ?aP (fun _ hk => hk.elim) ?aF ?aO ?aB ?aS ?aL ?_; (case aP => exact rfl); (case aF => exact (fun _ _ => trivial)); (case aO => exact (by (with_reducible repeat (first | apply Kd.R_alloc | apply Kd.R_drewN | apply Kd.R_drew)); exact HO.out)); (case aB => exact (by repeat (first | (with_reducible first | exact HB.out | apply below_alloc | apply pw_below_drewN | apply below_drew1) | exact HB.out))); (case aS => exact (below_size (by repeat (first | (with_reducible first | exact HB.out | apply below_alloc | apply pw_below_drewN | apply below_drew1) | exact HB.out)))); (case aL => have := HLn.out; omega); intro v1 w1 ho hb hg hat; have HO2 := Aside0.mk ho; have HB2 := Aside0.mk hb; have HRd3 := Aside0.mk (RdrV_grown (v := .slice none 0 0) (t := []) HRd.out hg HNe.out); clear ho hb hg hat))
            exact ⟨⟨j + 1, by go_num, by omega, HRd3, ⟨by rw [List.replicate_succ', ← List.append_assoc, ← HQ.out]; exact HO2.out⟩, HB2⟩, by simp [intOf]; omega⟩
          · have hjd : decide ((j : Int) < nV l1) = false := decide_eq_false hjl
            go_wp2
            go_roundg f
            case measure => omega
            case rel => exact ⟨_, _, _, HRd, HO, HB, ⟨by rw [HF.out, show (nV l1).toNat = j by omega]⟩, ⟨by have h1 := nR_lt l1 HY0.out H0'.out; have h2 := nR_le (nR l1); have := HK.out; omega⟩, ⟨by rw [List.length_append, List.length_replicate]; have := HBig.out; omega⟩, HY⟩

end Go.Proofs.YtpgfecaomdioeaaDoor.PCt
