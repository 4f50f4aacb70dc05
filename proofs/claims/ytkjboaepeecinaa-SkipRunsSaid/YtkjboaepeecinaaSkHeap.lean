/- The runner of skip.Run as it lies on the heap, and the contract of its first. -/
import Derived.Test.YtkjboaepeecinaaPSkx0
import Derived.Test.YtkjboaepeecinaaSkPure
import Derived.Deep.RegionHeld3
namespace Go.Proofs.Ytkjboaepeecinaa.PSk
open Go.RowKit Go.Proofs.Ytkjboaepeecinaa.PSk Go.Proofs.YtkjboaepeecinaaW.PrintWords Go.Proofs.YtkjboaepeecinaaW.PrintLast Go.Proofs.YtkjboaepeecinaaW.PrintMore 
set_option linter.unusedVariables false
set_option linter.unusedSimpArgs false

def ptrK : Kd Nat := Kd.scalar (fun s => Value.pointer (some ⟨s, 0, none⟩)) (fun _ => rfl)
theorem ptr_at {w : World} {A : Option Addr} {n : Nat} {xs : List Nat} (h : ptrK.C w A n xs) (i : Int) (h0 : 0 ≤ i) (h1 : i < n) : ∃ ad, A = some ad ∧ w.cell? (ad.add i.toNat) = some (.pointer (some ⟨xs.getD i.toNat 0, 0, none⟩)) := by
  obtain ⟨ad, e, hc⟩ := ReadsOf.at_ (Kd.reads_of_C (enc := fun s => Value.pointer (some ⟨s, 0, none⟩)) (d := (0 : Nat)) (h1 := fun _ => rfl) h) i h0 h1
  exact ⟨ad, e, hc⟩
def stC (x : St) : Array Value := #[.int .i64 x.p, .int .i64 x.need, .int .i64 x.s, .int .i64 x.n, .int .i64 x.e, .int .i64 x.left, .bool x.red, .int .i64 x.reds]
def StsV (b : Nat) (W : World) (A : List Nat) (S : List St) : Prop := ∀ (i : Nat) (a : Nat) (x : St), A[i]? = some a → S[i]? = some x → W.heap[a]? = some (.cells (stC x) 62 (0, 0)) ∧ b ≤ a
def RunC (W0 W : World) (R : Nat) (vl vt vm : Value) (A : List Nat) (S : List St) (blue : Bool) (T : List Int) (M : List S33) : Prop :=
  W.heap[R]? = some (.cells #[vl, .bool blue, vt, vm] 59 (0, 0)) ∧ Kd.R ptrK 60 W W0.heap.size (fun _ => True) vl A ∧
    Kd.R (Kd.int .i64) 3 W W0.heap.size (fun _ => True) vt T ∧ Kd.R k33 33 W W0.heap.size (fun _ => True) vm M ∧ A.Nodup ∧ A.length = S.length ∧ StsV W0.heap.size W A S
theorem R_other {α β : Type} {d : Kd α} {d' : Kd β} {e e' b : Nat} {w w1 : World} {ok ok' : Nat → Prop} {v v' : Value} {xs : List α} {ys : List β} (h : d.R e w b ok v xs) (h' : d'.R e' w b ok' v' ys) (ht : ∀ q ∈ e :: d.E, q ≠ e') (hg : w.grownBy w1 v'.ownBlock) : d.R e w1 b ok v xs := by
  refine Kd.R_mono (Kd.R_grown (Kd.R_bound h) hg (fun k hk heq => ?_)) (fun _ hk => hk.1)
  obtain ⟨_, _, _, q, hq, cells, hc⟩ := hk
  obtain ⟨_, inner, ho, _⟩ := h'
  obtain ⟨cells', hc'⟩ := own_typed ho k heq.symm
  rw [hc] at hc'
  injection hc' with hc'
  injection hc' with _ hc'
  exact ht q hq hc'
theorem Sts_move {b : Nat} {W W' : World} {A : List Nat} {S : List St} (h : StsV b W A S) (hm : ∀ a : Nat, ∀ x : St, W.heap[a]? = some (.cells (stC x) 62 (0, 0)) → W'.heap[a]? = some (.cells (stC x) 62 (0, 0))) : StsV b W' A S :=
  fun i a x ha hx => ⟨hm a x (h i a x ha hx).1, (h i a x ha hx).2⟩
/-- The marks' row has grown, and is stored. -/
theorem RunC_M {W0 W w1 : World} {R : Nat} {vl vt vm v1 : Value} {A : List Nat} {S : List St} {blue : Bool} {T : List Int} {M M1 : List S33} (h : RunC W0 W R vl vt vm A S blue T M) (hg : W.grownBy w1 vm.ownBlock) (ho : Kd.R k33 33 w1 W0.heap.size (fun _ => True) v1 M1) :
    RunC W0 (w1.setCell ⟨R, 3, none⟩ v1) R vl vt v1 A S blue T M1 := by
  obtain ⟨BK, HL, HT, HM, hnd, hal, hst⟩ := h
  have BK1 := blk_grown BK hg (Kd.R_ne HM BK (by decide))
  refine ⟨blk_put BK1 3 v1 rfl, Kd.R_set (R_other HL HM (by intro q hq; simp [ptrK, Kd.scalar] at hq; subst hq; decide) hg) BK1 (by intro q hq; simp [ptrK, Kd.scalar] at hq; subst hq; decide) _ _, Kd.R_set (R_other HT HM (by intro q hq; simp [Kd.int, Kd.scalar] at hq; subst hq; decide) hg) BK1 (by intro q hq; simp [Kd.int, Kd.scalar] at hq; subst hq; decide) _ _, Kd.R_set ho BK1 (by intro q hq; simp [k33, Kd.iso, Kd.pair, Kd.int, Kd.bool, Kd.scalar] at hq; subst hq; decide) _ _, hnd, hal, Sts_move hst fun a x hx => ?_⟩
  have hx1 := blk_grown hx hg (Kd.R_ne HM hx (by decide))
  exact blk_far hx1 (p := ⟨R, 3, none⟩) (blk_ne hx1 BK1 (by decide)) _
theorem RunC_T {W0 W w1 : World} {R : Nat} {vl vt vm v1 : Value} {A : List Nat} {S : List St} {blue : Bool} {T T1 : List Int} {M : List S33} (h : RunC W0 W R vl vt vm A S blue T M) (hg : W.grownBy w1 vt.ownBlock) (ho : Kd.R (Kd.int .i64) 3 w1 W0.heap.size (fun _ => True) v1 T1) :
    RunC W0 (w1.setCell ⟨R, 2, none⟩ v1) R vl v1 vm A S blue T1 M := by
  obtain ⟨BK, HL, HT, HM, hnd, hal, hst⟩ := h
  have BK1 := blk_grown BK hg (Kd.R_ne HT BK (by decide))
  refine ⟨blk_put BK1 2 v1 rfl, Kd.R_set (R_other HL HT (by intro q hq; simp [ptrK, Kd.scalar] at hq; subst hq; decide) hg) BK1 (by intro q hq; simp [ptrK, Kd.scalar] at hq; subst hq; decide) _ _, Kd.R_set ho BK1 (by intro q hq; simp [Kd.int, Kd.scalar] at hq; subst hq; decide) _ _, Kd.R_set (R_other HM HT (by intro q hq; simp [k33, Kd.iso, Kd.pair, Kd.int, Kd.bool, Kd.scalar] at hq; subst hq; decide) hg) BK1 (by intro q hq; simp [k33, Kd.iso, Kd.pair, Kd.int, Kd.bool, Kd.scalar] at hq; subst hq; decide) _ _, hnd, hal, Sts_move hst fun a x hx => ?_⟩
  have hx1 := blk_grown hx hg (Kd.R_ne HT hx (by decide))
  exact blk_far hx1 (p := ⟨R, 2, none⟩) (blk_ne hx1 BK1 (by decide)) _
/-- One task's state has been written. -/
theorem RunC_S {W0 W w1 : World} {R a i : Nat} {vl vt vm : Value} {A : List Nat} {S : List St} {blue : Bool} {T : List Int} {M : List S33} {x y : St} (h : RunC W0 W R vl vt vm A S blue T M) (hi : A[i]? = some a) (hx : S[i]? = some x) (hk : KeepBut W w1 a none) (hy : w1.heap[a]? = some (.cells (stC y) 62 (0, 0))) :
    RunC W0 w1 R vl vt vm A (S.set i y) blue T M := by
  obtain ⟨BK, HL, HT, HM, hnd, hal, hst⟩ := h
  have hxa := (hst i a x hi hx).1
  refine ⟨hk.blk BK (blk_ne BK hxa (by decide)) (by simp), Kd.R_mono (Kd.R_keep (Kd.R_types HL hxa (by intro q hq; simp [ptrK, Kd.scalar] at hq; subst hq; decide)) hk (fun _ h => h.2)) (fun _ _ => trivial), Kd.R_mono (Kd.R_keep (Kd.R_types HT hxa (by intro q hq; simp [Kd.int, Kd.scalar] at hq; subst hq; decide)) hk (fun _ h => h.2)) (fun _ _ => trivial), Kd.R_mono (Kd.R_keep (Kd.R_types HM hxa (by intro q hq; simp [k33, Kd.iso, Kd.pair, Kd.int, Kd.bool, Kd.scalar] at hq; subst hq; decide)) hk (fun _ h => h.2)) (fun _ _ => trivial), hnd, by rw [List.length_set]; exact hal, fun j b z hj hz => ?_⟩
  by_cases hji : i = j
  · subst hji
    rw [hi] at hj
    injection hj with hj
    subst hj
    rw [List.getElem?_set_self (by have := (List.getElem?_eq_some_iff.1 hx).1; exact this)] at hz
    injection hz with hz
    subst hz
    exact ⟨hy, (hst i _ x hi hx).2⟩
  · rw [List.getElem?_set_ne hji] at hz
    have hb := hst j b z hj hz
    refine ⟨hk.blk hb.1 (fun e => hji ?_) (by simp), hb.2⟩
    subst e
    obtain ⟨hl1, h1⟩ := List.getElem?_eq_some_iff.1 hi
    obtain ⟨hl2, h2⟩ := List.getElem?_eq_some_iff.1 hj
    have hp := List.pairwise_iff_getElem.1 hnd
    rcases Nat.lt_or_gt_of_ne hji with hlt | hlt
    · exact absurd (h1.trans h2.symm) (hp i j hl1 hl2 hlt)
    · exact absurd (h2.trans h1.symm) (hp j i hl2 hl1 hlt)
theorem RunC_drewN {W0 W : World} {R : Nat} {vl vt vm : Value} {A : List Nat} {S : List St} {blue : Bool} {T : List Int} {M : List S33} (h : RunC W0 W R vl vt vm A S blue T M) (n : Nat) : RunC W0 (W.drewN n) R vl vt vm A S blue T M := by
  obtain ⟨BK, HL, HT, HM, hnd, hal, hst⟩ := h
  exact ⟨BK, Kd.R_drewN HL n, Kd.R_drewN HT n, Kd.R_drewN HM n, hnd, hal, hst⟩
theorem Sts_get {b : Nat} {W : World} {A : List Nat} {S : List St} (h : StsV b W A S) (hl : A.length = S.length) (i : Nat) (hi : i < A.length) : W.heap[A.getD i 0]? = some (.cells (stC (S.getD i default)) 62 (0, 0)) ∧ b ≤ A.getD i 0 := by
  refine h i _ _ ?_ ?_
  · rw [List.getD_eq_getElem?_getD, List.getElem?_eq_getElem hi]; rfl
  · rw [List.getD_eq_getElem?_getD, List.getElem?_eq_getElem (by omega)]; rfl
theorem firstTo_bd (red : Bool) (S : List St) : ∀ i, firstTo red S i = -1 ∨ (0 ≤ firstTo red S i ∧ firstTo red S i < i)
  | 0 => .inl rfl
  | i + 1 => by
    have := firstTo_bd red S i
    simp only [firstTo, better]
    split
    · right; omega
    · push_cast; omega
theorem first_out (red : Bool) (S : List St) (i : Int) (h0 : 0 ≤ i) {b : Int} (hb : firstTo red S i.toNat = b) (h : ¬ ((S.getD i.toNat default).red = red ∧ 0 < (S.getD i.toNat default).left ∧ (b < 0 ∨ (S.getD i.toNat default).e < (S.getD b.toNat default).e))) : firstTo red S (i + 1).toNat = b := by
  rw [show (i + 1).toNat = i.toNat + 1 by omega, firstTo, better, if_neg (by rw [hb]; exact h), hb]
theorem first_in (red : Bool) (S : List St) (i : Int) (h0 : 0 ≤ i) {b : Int} (hb : firstTo red S i.toNat = b) (h : (S.getD i.toNat default).red = red ∧ 0 < (S.getD i.toNat default).left ∧ (b < 0 ∨ (S.getD i.toNat default).e < (S.getD b.toNat default).e)) : firstTo red S (i + 1).toNat = i := by
  rw [show (i + 1).toNat = i.toNat + 1 by omega, firstTo, better, if_pos (by rw [hb]; exact h)]
  omega
attribute [local go_sem] max2_int min2_int max_two min_two
set_option maxHeartbeats 4000000 in
set_option maxRecDepth 100000 in
theorem first_c (W0 W : World) (R : Nat) (vl vt vm : Value) (A : List Nat) (S : List St) (blue : Bool) (T : List Int) (M : List S33) (red : Bool) (h : RunC W0 W R vl vt vm A S blue T M) (hl : A.length ≤ 1000) :
    Calls Try.prog 33 #[.pointer (some ⟨R, 0, none⟩), .bool red] W fun e w' => e = .returned (.int .i64 (firstS red S)) ∧ ∃ n, w' = W.drewN n := by
  obtain ⟨BK, HL, HT, HM, hnd, hal, hst⟩ := h
  obtain ⟨Al, cl, rfl⟩ := Kd.R_slice HL
  have HC := Aside0.mk (Kd.R_reads' HL).2.2
  have hcl := (Kd.R_reads' HL).2.1
  have hc0 : W.cell? ⟨R, 0, none⟩ = some (.slice Al A.length cl) := (blk_cell BK 0).trans rfl
  have HST := Aside0.mk hst
  have HF : Aside0 (firstTo red S A.length = firstS red S) := ⟨by rw [hal]; rfl⟩
  have HAL := Aside0.mk hal
  clear BK HL HT HM hnd hst hal
  go_enter Try.func33, Try.ntmps33
  go_wp2
  go_loopw [5, 13] (fun v5 v13 wr => ∃ (i b : Int), 0 ≤ i ∧ i ≤ A.length ∧ v13 = .int .i64 i ∧ v5 = .int .i64 b ∧ Aside0 (firstTo red S i.toNat = b) ∧ Aside0 (∃ n, wr = W.drewN n)) (fun _ v13 _ => A.length - (intOf v13).toNat)
  case atStart => exact ⟨0, -1, by omega, by omega, rfl, rfl, ⟨rfl⟩, ⟨0, rfl⟩⟩
  case round =>
    obtain ⟨i, b, hi0, hi, rfl, rfl, HB, ⟨nd, rfl⟩⟩ := hrel
    by_cases hlt : i < A.length
    · obtain ⟨ad, rfl, hp⟩ := ptr_at HC.out i (by omega) (by omega)
      have hs := (Sts_get HST.out HAL.out i.toNat (by omega)).1
      have c4 := (show W.cell? ⟨A.getD i.toNat 0, 4, none⟩ = some (.int .i64 (S.getD i.toNat default).e) from (blk_cell hs 4).trans rfl)
      have c5 := (show W.cell? ⟨A.getD i.toNat 0, 5, none⟩ = some (.int .i64 (S.getD i.toNat default).left) from (blk_cell hs 5).trans rfl)
      have c6 := (show W.cell? ⟨A.getD i.toNat 0, 6, none⟩ = some (.bool (S.getD i.toNat default).red) from (blk_cell hs 6).trans rfl)
      clear hs
      have hbd := firstTo_bd red S i.toNat
      rw [HB.out] at hbd
      have F0 := Aside0.mk (first_out red S i hi0 HB.out)
      have F1 := Aside0.mk (first_in red S i hi0 HB.out)
      have hw : wrap64 (i + 1) = i + 1 := by simp only [wrap64]; omega
      have HW := Aside0.mk hw
      clear hw
      generalize S.getD i.toNat default = x at *
      generalize A.getD i.toNat 0 = a at *
      by_cases q1 : x.red = red
      · rw [q1] at c6
        by_cases q2 : 0 < x.left
        · have d2 : decide (0 < x.left) = true := decide_eq_true q2
          by_cases q3 : b < 0
          · have d3 : decide (b < 0) = true := decide_eq_true q3
            have HF0 := Aside0.mk (F1.out ⟨q1, q2, .inl q3⟩)
            clear q1 q3 F0 F1 HB
            cases red <;> go_wp2 <;> go_quiet (fail) <;> go_wp2 <;> exact ⟨⟨i + 1, i, by omega, by omega, by first | rfl | go_num, rfl, HF0, ⟨_, rfl⟩⟩, by simp [intOf] <;> omega⟩
          · have d3 : decide (b < 0) = false := decide_eq_false q3
            have hb0 : 0 ≤ b := by omega
            have hbl : b < A.length := by omega
            obtain ⟨ad2, e2, hp2⟩ := ptr_at HC.out b hb0 hbl
            injection e2 with e2
            subst e2
            have hs2 := (Sts_get HST.out HAL.out b.toNat (by omega)).1
            have k4 := (show W.cell? ⟨A.getD b.toNat 0, 4, none⟩ = some (.int .i64 (S.getD b.toNat default).e) from (blk_cell hs2 4).trans rfl)
            clear hs2
            generalize S.getD b.toNat default = y at *
            generalize A.getD b.toNat 0 = a2 at *
            by_cases q4 : x.e < y.e
            · have d4 : decide (x.e < y.e) = true := decide_eq_true q4
              have HF0 := Aside0.mk (F1.out ⟨q1, q2, .inr q4⟩)
              clear q1 F0 F1 HB
              cases red <;> go_wp2 <;> go_quiet (fail) <;> go_wp2 <;> exact ⟨⟨i + 1, i, by omega, by omega, by first | rfl | go_num, rfl, HF0, ⟨_, rfl⟩⟩, by simp [intOf] <;> omega⟩
            · have d4 : decide (x.e < y.e) = false := decide_eq_false q4
              have HF0 := Aside0.mk (F0.out (by rintro ⟨_, _, h | h⟩ <;> omega))
              clear q1 F0 F1 HB
              cases red <;> go_wp2 <;> go_quiet (fail) <;> go_wp2 <;> exact ⟨⟨i + 1, b, by omega, by omega, by first | rfl | go_num, rfl, HF0, ⟨_, rfl⟩⟩, by simp [intOf] <;> omega⟩
        · have d2 : decide (0 < x.left) = false := decide_eq_false q2
          have HF0 := Aside0.mk (F0.out (fun h => q2 h.2.1))
          clear q1 F0 F1 HB
          cases red <;> go_wp2 <;> go_quiet (fail) <;> go_wp2 <;> exact ⟨⟨i + 1, b, by omega, by omega, by first | rfl | go_num, rfl, HF0, ⟨_, rfl⟩⟩, by simp [intOf] <;> omega⟩
      · have HF0 := Aside0.mk (F0.out (fun h => q1 h.1))
        clear F0 F1 HB
        have q2 : x.red = !red := by revert q1; cases x.red <;> cases red <;> simp
        rw [q2] at c6
        clear q1 q2
        cases red <;> go_wp2 <;> go_quiet (fail) <;> go_wp2 <;> exact ⟨⟨i + 1, b, by omega, by omega, by first | rfl | go_num, rfl, HF0, ⟨_, rfl⟩⟩, by simp [intOf] <;> omega⟩
    · have hie : i.toNat = A.length := by omega
      have HR := Aside0.mk (HB.out.symm.trans ((congrArg (firstTo red S) hie).trans HF.out))
      have hz : decide (i < (A.length : Int)) = false := decide_eq_false hlt
      have hie2 : i = (A.length : Int) := by omega
      clear HB HF hie hlt hi hi0
      subst hie2
      go_wp2
      go_ret
      exact ⟨by rw [← HR.out]; rfl, _, rfl⟩

end Go.Proofs.Ytkjboaepeecinaa.PSk
