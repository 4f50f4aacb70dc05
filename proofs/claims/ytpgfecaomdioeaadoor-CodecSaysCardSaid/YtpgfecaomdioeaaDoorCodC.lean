/- The reference's reader: groups, num, text. tocsinref8.GetJobs: what is read, in plain lists, and the state of a round on the heap. tocsinref8.All, opened, in plain lists. -/
-- slim
import Derived.Test.YtpgfecaomdioeaaDoorPCtx8
import Derived.Test.YtpgfecaomdioeaaDoorCodRefP
import Derived.Lib.TrimUEq
import Derived.Lib.ValidLaws
namespace Go.Proofs.YtpgfecaomdioeaaDoor.PCt
open Go.RowKit Go.Proofs.YtpgfecaomdioeaaDoor.PCt Go.Proofs.YtpgfecaomdioeaaDoorW.PrintWords Go.Proofs.YtpgfecaomdioeaaDoorW.PrintLast Go.Proofs.YtpgfecaomdioeaaDoorW.PrintMore 
set_option linter.unusedVariables false
set_option linter.unusedSimpArgs false

def gQ : Option (Int × Nat) → Int × Int
 | none => (0, 0)
 | some (x, k) => (x, k)
theorem and127 : ∀ c : Int, 0 ≤ c → c < 256 → Go.bits .and .u8 c 127 = c % 128 := by
 intro c h0 h1
 obtain ⟨n, rfl⟩ := Int.eq_ofNat_of_zero_le h0
 have : ∀ n : Nat, n < 256 → Go.bits .and .u8 (n : Int) 127 = (n : Int) % 128 := by decide +kernel
 exact this n (by omega)
theorem shl_at (d : Int) (h0 : 0 ≤ d) (h1 : d < 128) (i : Nat) (hi : i < 4) : shl .i64 (wrap64 d) (IntKind.u64.wrap (wrap64 (7 * (i : Int)))) = d * 2 ^ (7 * i) := by
 rw [w64 d (by omega) (by omega)]
 unfold shl
 obtain rfl | rfl | rfl | rfl : i = 0 ∨ i = 1 ∨ i = 2 ∨ i = 3 := by omega
 ·rw [show min (IntKind.u64.wrap (wrap64 (7 * ((0 : Nat) : Int)))).toNat IntKind.i64.bits = 0 by decide +kernel, i64_w, w64 _ (by rw [show (2 : Int) ^ 0 = 1 by decide]; omega) (by rw [show (2 : Int) ^ 0 = 1 by decide]; omega)]
 ·rw [show min (IntKind.u64.wrap (wrap64 (7 * ((1 : Nat) : Int)))).toNat IntKind.i64.bits = 7 by decide +kernel, i64_w, w64 _ (by rw [show (2 : Int) ^ 7 = 128 by decide]; omega) (by rw [show (2 : Int) ^ 7 = 128 by decide]; omega)]
 ·rw [show min (IntKind.u64.wrap (wrap64 (7 * ((2 : Nat) : Int)))).toNat IntKind.i64.bits = 14 by decide +kernel, i64_w, w64 _ (by rw [show (2 : Int) ^ 14 = 16384 by decide]; omega) (by rw [show (2 : Int) ^ 14 = 16384 by decide]; omega)]
 ·rw [show min (IntKind.u64.wrap (wrap64 (7 * ((3 : Nat) : Int)))).toNat IntKind.i64.bits = 21 by decide +kernel, i64_w, w64 _ (by rw [show (2 : Int) ^ 21 = 2097152 by decide]; omega) (by rw [show (2 : Int) ^ 21 = 2097152 by decide]; omega)]
theorem or_at (x d : Int) (i : Nat) (hi : i < 4) (h0 : 0 ≤ x) (h1 : x < 128 ^ i) (d0 : 0 ≤ d) (d1 : d < 128) : Go.bits .or .i64 x (d * 2 ^ (7 * i)) = x + d * 128 ^ i := by
 have e : (128 : Int) ^ i = 2 ^ (7 * i) := by rw [Int.pow_mul]; rfl
 rw [or_low (7 * i) x d (by omega) h0 (by rw [← e]; exact h1) d0 d1, e]
theorem grp_go (l : List Int) (hb : ∀ c ∈ l, 0 ≤ c ∧ c < 256) (hl : l.length ≤ 1000000000) : ∀ (f i : Nat) (x : Int) (k : Nat), f + i = 4 → 0 ≤ x → x < 128 ^ i → 2 * f + 2 ≤ k → tocsinref8_groups.l0 k l x i = some (gQ (grpL (l.drop i) i x)) := by
 intro f
 induction f with
 | zero =>
  intro i x k hi h0 h1 hk
  obtain rfl : i = 4 := by omega
  obtain ⟨k, rfl⟩ : ∃ k', k = k' + 2 := ⟨k - 2, by omega⟩
  unfold tocsinref8_groups.l0
  by_cases h : 4 < l.length
  ·rw [if_pos (by omega), show decide ((((4 : Nat) : Int)) < 4) = false by decide, rd_at l 4 h]
   unfold tocsinref8_groups.j1
   rw [if_neg (by decide)]
   rfl
  ·rw [if_neg (by omega), List.drop_of_length_le (by omega)]
   unfold tocsinref8_groups.j1
   rw [if_neg (by decide)]
   rfl
 | succ f ih =>
  intro i x k hi h0 h1 hk
  obtain ⟨k, rfl⟩ : ∃ k', k = k' + 2 := ⟨k - 2, by omega⟩
  unfold tocsinref8_groups.l0
  by_cases h : i < l.length
  ·have hc := hb (rd l (i : Int)) (by have := rd_at l i h; exact List.mem_of_mem_drop (i := i) (by rw [this]; exact List.mem_cons_self ..))
   rw [if_pos (by omega), rd_at l i h, show decide ((i : Int) < 4) = true from decide_eq_true (by omega)]
   unfold tocsinref8_groups.j1
   generalize rd l (i : Int) = c at hc ⊢
   have e1 : Go.bits .or .i64 x (shl .i64 (wrap64 (Go.bits .and .u8 c 127)) (IntKind.u64.wrap (wrap64 (7 * (i : Int))))) = x + (c % 128) * 128 ^ i := by
    rw [and127 c hc.1 hc.2, shl_at (c % 128) (by omega) (by omega) i (by omega), or_at x (c % 128) i (by omega) h0 h1 (by omega) (by omega)]
   have e2 : wrap64 ((i : Int) + 1) = ((i + 1 : Nat) : Int) := by rw [w64 _ (by omega) (by omega)]; omega
   have e3 : 0 ≤ IntKind.u64.wrap (wrap64 (7 * (i : Int))) := by
    obtain rfl | rfl | rfl | rfl : i = 0 ∨ i = 1 ∨ i = 2 ∨ i = 3 := by omega
    all_goals decide +kernel
   have hp : (0 : Int) < 128 ^ i := Int.pow_pos (by decide)
   rw [e1, e2, if_pos rfl, if_pos (by omega), if_pos (by omega), if_pos e3]
   simp only [grpL]
   rw [if_neg (show ¬ 4 ≤ i by omega)]
   by_cases h128 : c < 128
   ·rw [if_pos h128, if_neg (show ¬ 128 ≤ c by omega)]
    by_cases hc0 : c = 0
    ·rw [if_pos hc0]
     by_cases hi0 : 0 < i
     ·rw [if_pos (by omega), if_pos ⟨hi0, hc0⟩]
      rfl
     ·rw [if_neg (by omega), if_neg (fun h => hi0 h.1)]
      rfl
    ·rw [if_neg hc0, if_neg (fun h => hc0 h.2)]
     rfl
   ·rw [if_neg h128, if_pos (show 128 ≤ c by omega)]
    have hm : 0 ≤ (c % 128) * 128 ^ i := Int.mul_nonneg (by omega) (by omega)
    have hm2 : (c % 128) * 128 ^ i ≤ 127 * 128 ^ i := Int.mul_le_mul_of_nonneg_right (by omega) (by omega)
    exact ih (i + 1) _ k (by omega) (by omega) (by rw [Int.pow_succ]; omega) (by omega)
  ·rw [if_neg (by omega), List.drop_of_length_le (by omega)]
   unfold tocsinref8_groups.j1
   rw [if_neg (by decide)]
   rfl
theorem groups_is (l : List Int) (hb : ∀ c ∈ l, 0 ≤ c ∧ c < 256) (hl : l.length ≤ 1000000000) : tocsinref8_groups.f 10 l = some (gQ (grpL l 0 0)) :=
 grp_go l hb hl 4 0 0 10 (by decide) (by decide) (by decide) (by decide)
def RdrF (W0 : World) (w' : World) (R : Nat) (l : List Int) (bad : Bool) : Prop := ∃ A c, w'.heap[R]? = some (.cells #[.slice A l.length c, .bool bad] 66 (0, 0)) ∧ Kd.C (Kd.int .u8) W0 A l.length l ∧ l.length ≤ c
def mV (l : List Int) (bad : Bool) : Int := if bad = true then 0 else (gQ (grpL l 0 0)).1
def mR (l : List Int) (bad : Bool) : List Int := if bad = true then l else match grpL l 0 0 with | none => l | some (_, k) => l.drop k
def mB (l : List Int) (bad : Bool) : Bool := bad || (grpL l 0 0).isNone
theorem grpL_bd : ∀ (l : List Int) (i : Nat) (n x : Int) (k : Nat), (∀ c ∈ l, 0 ≤ c ∧ c < 256) → 0 ≤ n → n < 128 ^ i → grpL l i n = some (x, k) → 0 ≤ x ∧ x < 268435456 ∧ i < k ∧ k ≤ i + l.length
 | [], _, _, _, _, _, _, _, h => by cases h
 | c :: t, i, n, x, k, hb, hn, hn2, h => by
  have hc := hb c (List.mem_cons_self ..)
  have hp : (0 : Int) < 128 ^ i := Int.pow_pos (by decide)
  have hm : 0 ≤ (c % 128) * 128 ^ i := Int.mul_nonneg (by omega) (by omega)
  have hm2 : (c % 128) * 128 ^ i ≤ 127 * 128 ^ i := Int.mul_le_mul_of_nonneg_right (by omega) (by omega)
  have hs : (128 : Int) ^ (i + 1) = 128 ^ i * 128 := Int.pow_succ ..
  simp only [grpL] at h
  split at h
  ·cases h
  rename_i hi4
  have hle : (128 : Int) ^ (i + 1) ≤ 268435456 := by
   obtain rfl | rfl | rfl | rfl : i = 0 ∨ i = 1 ∨ i = 2 ∨ i = 3 := by omega
   all_goals decide
  split at h
  ·have := grpL_bd t (i + 1) _ x k (fun y hy => hb y (List.mem_cons_of_mem _ hy)) (by omega) (by omega) h
   simp only [List.length_cons]
   omega
  split at h
  ·cases h
  ·injection h with h
   injection h with h1 h2
   simp only [List.length_cons]
   omega
section
variable {W0 W : World} {R : Nat} {S : Value} {b : Bool}
theorem endF_bad (BK : W.heap[R]? = some (.cells #[S, .bool b] 66 (0, 0))) (hB : Below W0.heap.size W0 W) (hg : W0.heap.size ≤ R) {A : Option Addr} {l : List Int} {c : Nat} (hS : S = .slice A l.length c) (hC : Kd.C (Kd.int .u8) W0 A l.length l) (hc : l.length ≤ c) :
  RdrF W0 (W.setCell ⟨R, 1, none⟩ (.bool true)) R l true ∧ Below W0.heap.size W0 (W.setCell ⟨R, 1, none⟩ (.bool true)) ∧ KeepBut W (W.setCell ⟨R, 1, none⟩ (.bool true)) R none := by
 subst hS
 exact ⟨⟨A, c, blk_put BK 1 _ rfl, hC, hc⟩, low_set hB hg _ _, keep_set ⟨Nat.le_refl _, fun _ _ _ _ => rfl⟩ _ _⟩
theorem endF_ok (BK : W.heap[R]? = some (.cells #[S, .bool b] 66 (0, 0))) (hB : Below W0.heap.size W0 W) (hg : W0.heap.size ≤ R) {A : Option Addr} {l : List Int} {c : Nat} (hC : Kd.C (Kd.int .u8) W0 A l.length l) (hc : l.length ≤ c) (k : Nat) (hk : k ≤ l.length) (A' : Option Addr) (c' : Nat) (hA : A' = (if c = k then A else A.map (·.add k)) ∧ c' = c - k) (m : Nat) (hm : m = l.length - k) :
  RdrF W0 (W.setCell ⟨R, 0, none⟩ (.slice A' m c')) R (l.drop k) b ∧ Below W0.heap.size W0 (W.setCell ⟨R, 0, none⟩ (.slice A' m c')) ∧ KeepBut W (W.setCell ⟨R, 0, none⟩ (.slice A' m c')) R none := by
 obtain ⟨rfl, rfl⟩ := hA
 subst hm
 have h1 := Kd.C_drop (c := c) hC hk hc
 rw [show (Kd.int IntKind.u8).sz = 1 from rfl, Nat.mul_one] at h1
 refine ⟨⟨_, c - k, ?_, h1, by rw [List.length_drop]; omega⟩, low_set hB hg _ _, keep_set ⟨Nat.le_refl _, fun _ _ _ _ => rfl⟩ _ _⟩
 rw [List.length_drop]
 exact blk_put BK 0 _ rfl
end
theorem keep3 {W W1 W2 : World} {R : Nat} {P Q : Prop} (hk : KeepBut W W1 R none) (h : P ∧ Q ∧ KeepBut W1 W2 R none) : P ∧ Q ∧ KeepBut W W2 R none := ⟨h.1, h.2.1, keep_trans hk h.2.2⟩
set_option maxHeartbeats 8000000
set_option maxRecDepth 100000
theorem num_c (W0 W : World) (R : Nat) (l : List Int) (bad : Bool) (hR : RdrF W0 W R l bad) (hB : Below W0.heap.size W0 W) (hg : W0.heap.size ≤ R) (hb : ∀ x ∈ l, 0 ≤ x ∧ x < 256) (hl : l.length ≤ 1000000) :
  Calls Tryd.prog 30 #[.pointer (some ⟨R, 0, none⟩)] W fun e w' => e = .returned (.int .i64 (mV l bad)) ∧ RdrF W0 w' R (mR l bad) (mB l bad) ∧ Below W0.heap.size W0 w' ∧ KeepBut W w' R none := by
 obtain ⟨A, c, BK, hC, hc⟩ := hR
 have hc0 : W.cell? ⟨R, 0, none⟩ = some (.slice A l.length c) := (blk_cell BK 0).trans rfl
 have hc1 : W.cell? ⟨R, 1, none⟩ = some (.bool bad) := (blk_cell BK 1).trans rfl
 have hf0 := blk_frozen BK 0
 have hf1 := blk_frozen BK 1
 have HC := Aside0.mk hC
 have HBK := Aside0.mk BK
 have HB := Aside0.mk hB
 have HG := Aside0.mk hg
 have HCC := Aside0.mk hc
 have CG := tocsinref8_groups.calls 10 A c l (gQ (grpL l 0 0)).1 (gQ (grpL l 0 0)).2 W (Kd.C_below hC hB) hc (groups_is l hb (by omega))
 have hbd := grpL_bd l 0 0
 clear hC BK hB
 unfold mV mR mB
 cases bad with
 | true =>
  rw [if_pos rfl, if_pos rfl, Bool.true_or]
  have CG2 := Aside0.mk CG
  generalize (gQ (grpL l 0 0)).1 = q1 at CG2
  generalize (gQ (grpL l 0 0)).2 = q2 at CG2
  clear CG hbd
  go_enter Tryd.func30, Tryd.ntmps30
  go_wp2_with (first | (go_at_call 39; (with_reducible refine CG2.out.mono ?_); rintro e w7 ⟨rfl, n, rfl⟩))
  go_ret
  exact ⟨rfl, keep3 ⟨Nat.le_refl _, fun _ _ _ _ => rfl⟩ (endF_bad (blk_drewN HBK.out n) (pw_below_drewN HB.out n) HG.out rfl HC.out HCC.out)⟩
 | false =>
  rw [if_neg (by decide), if_neg (by decide), Bool.false_or]
  cases hq : grpL l 0 0 with
  | none =>
   rw [hq] at CG
   have CG2 : Aside0 (Calls Tryd.prog 39 #[.slice A l.length c] W fun e w' => e = .returned (.tuple #[.int .i64 0, .int .i64 0]) ∧ Drawn0 W w') := ⟨CG⟩
   clear CG hbd hq
   go_enter Tryd.func30, Tryd.ntmps30
   go_wp2_with (first | (go_at_call 39; (with_reducible refine CG2.out.mono ?_); rintro e w7 ⟨rfl, n, rfl⟩))
   go_ret
   exact ⟨rfl, keep3 ⟨Nat.le_refl _, fun _ _ _ _ => rfl⟩ (endF_bad (blk_drewN HBK.out n) (pw_below_drewN HB.out n) HG.out rfl HC.out HCC.out)⟩
  | some p =>
   obtain ⟨x, k⟩ := p
   rw [hq] at CG
   have CG2 : Aside0 (Calls Tryd.prog 39 #[.slice A l.length c] W fun e w' => e = .returned (.tuple #[.int .i64 x, .int .i64 k]) ∧ Drawn0 W w') := ⟨CG⟩
   have hbk := hbd x k hb (by decide) (by decide) hq
   have y1 : ((k : Int) ≤ (l.length : Int)) = True := eq_true (by omega)
   have y2 : ((l.length : Int) ≤ (c : Int)) = True := eq_true (by omega)
   have y3 : ((k : Int) ≤ (c : Int)) = True := eq_true (by omega)
   have y0 : ((0 : Int) ≤ (k : Int)) = True := eq_true (by omega)
   have y4 : ((k : Int) == 0) = false := beq_eq_false_iff_ne.mpr (by omega)
   have y5 : decide (k = 0) = false := decide_eq_false (by omega)
   have HM := Aside0.mk (show k ≤ l.length by omega)
   clear CG hbd hq hbk
   show Calls _ _ _ _ fun e w' => e = .returned (.int .i64 x) ∧ RdrF W0 w' R (l.drop k) false ∧ _
   go_enter Tryd.func30, Tryd.ntmps30
   go_wp2_with (first | (go_at_call 39; (with_reducible refine CG2.out.mono ?_); rintro e w7 ⟨rfl, n, rfl⟩))
   ·go_ret
    exact ⟨rfl, keep3 ⟨Nat.le_refl _, fun _ _ _ _ => rfl⟩ (endF_ok (blk_drewN HBK.out n) (pw_below_drewN HB.out n) HG.out HC.out HCC.out k HM.out _ _ ⟨(if_pos (by omega)).symm, by omega⟩ _ rfl)⟩
   ·go_ret
    exact ⟨rfl, keep3 ⟨Nat.le_refl _, fun _ _ _ _ => rfl⟩ (endF_ok (blk_drewN HBK.out n) (pw_below_drewN HB.out n) HG.out HC.out HCC.out k HM.out _ _ ⟨(if_neg (by omega)).symm, rfl⟩ _ rfl)⟩
theorem mV_bd (l : List Int) (bad : Bool) (hb : ∀ x ∈ l, 0 ≤ x ∧ x < 256) : 0 ≤ mV l bad ∧ mV l bad < 268435456 := by
 unfold mV
 split
 ·decide
 ·cases h : grpL l 0 0 with
  | none => decide
  | some p =>
   have := grpL_bd l 0 0 p.1 p.2 hb (by decide) (by decide) h
   exact ⟨this.1, this.2.1⟩
theorem mR_mem (l : List Int) (bad : Bool) (c : Int) (h : c ∈ mR l bad) : c ∈ l := by
 unfold mR at h
 split at h
 ·exact h
 ·split at h
  ·exact h
  ·exact List.mem_of_mem_drop h
theorem mR_le (l : List Int) (bad : Bool) : (mR l bad).length ≤ l.length := by
 unfold mR
 split
 ·exact Nat.le_refl _
 ·split
  ·exact Nat.le_refl _
  ·rw [List.length_drop]; omega
def xT (l : List Int) (bad : Bool) : Bool := mB l bad || decide ((mR l bad).length < (mV l bad).toNat)
def xS (l : List Int) (bad : Bool) : ByteArray := if xT l bad = true then ⟨#[]⟩ else strOfNums ((mR l bad).take (mV l bad).toNat)
def xR (l : List Int) (bad : Bool) : List Int := if xT l bad = true then mR l bad else (mR l bad).drop (mV l bad).toNat
theorem rtext_c (W0 W : World) (R : Nat) (l : List Int) (bad : Bool) (hR : RdrF W0 W R l bad) (hB : Below W0.heap.size W0 W) (hg : W0.heap.size ≤ R) (hb : ∀ x ∈ l, 0 ≤ x ∧ x < 256) (hl : l.length ≤ 1000000) :
  Calls Tryd.prog 31 #[.pointer (some ⟨R, 0, none⟩)] W fun e w' => e = .returned (.string (xS l bad)) ∧ RdrF W0 w' R (xR l bad) (xT l bad) ∧ Below W0.heap.size W0 w' ∧ KeepBut W w' R none := by
 have HG := Aside0.mk hg
 have CN := num_c W0 W R l bad hR hB hg hb hl
 have hbd := mV_bd l bad hb
 unfold xS xR xT
 generalize mV l bad = v at *
 generalize mR l bad = l2 at *
 generalize mB l bad = b2 at *
 obtain ⟨m, rfl⟩ : ∃ m : Nat, v = m := ⟨v.toNat, by omega⟩
 have CN2 := Aside0.mk CN
 clear CN hR hB hb hl
 cases b2 with
 | true =>
  rw [Bool.true_or, if_pos rfl, if_pos rfl]
  go_enter Tryd.func31, Tryd.ntmps31
  go_wp2_with (first | (go_at_call 30; (with_reducible refine CN2.out.mono ?_); rintro e w9 ⟨rfl, hRd, hB, hK⟩; obtain ⟨A, c, BK, hC, hc⟩ := hRd; have hc0 : w9.cell? ⟨R, 0, none⟩ = some (.slice A l2.length c) := (blk_cell BK 0).trans rfl; have hc1 : w9.cell? ⟨R, 1, none⟩ = some (.bool true) := (blk_cell BK 1).trans rfl; have hf0 := blk_frozen BK 0; have hf1 := blk_frozen BK 1; have HX := Aside0.mk (And.intro BK (And.intro hC (And.intro hc (And.intro hB hK)))); clear BK hC hc hB hK))
  go_ret
  exact ⟨rfl, keep3 HX.out.2.2.2.2 (endF_bad HX.out.1 HX.out.2.2.2.1 HG.out rfl HX.out.2.1 HX.out.2.2.1)⟩
 | false =>
  by_cases h : l2.length < m
  ·rw [Bool.false_or, decide_eq_true (show l2.length < (m : Int).toNat by omega), if_pos rfl, if_pos rfl]
   have e1 : decide ((m : Int) > (l2.length : Int)) = true := decide_eq_true (by omega)
   have e2 : decide (l2.length < m) = true := decide_eq_true (by omega)
   clear h
   go_enter Tryd.func31, Tryd.ntmps31
   go_wp2_with (first | (go_at_call 30; (with_reducible refine CN2.out.mono ?_); rintro e w9 ⟨rfl, hRd, hB, hK⟩; obtain ⟨A, c, BK, hC, hc⟩ := hRd; have hc0 : w9.cell? ⟨R, 0, none⟩ = some (.slice A l2.length c) := (blk_cell BK 0).trans rfl; have hc1 : w9.cell? ⟨R, 1, none⟩ = some (.bool false) := (blk_cell BK 1).trans rfl; have hf0 := blk_frozen BK 0; have hf1 := blk_frozen BK 1; have HX := Aside0.mk (And.intro BK (And.intro hC (And.intro hc (And.intro hB hK)))); clear BK hC hc hB hK))
   go_ret
   exact ⟨rfl, keep3 HX.out.2.2.2.2 (endF_bad HX.out.1 HX.out.2.2.2.1 HG.out rfl HX.out.2.1 HX.out.2.2.1)⟩
  ·rw [Bool.false_or, decide_eq_false (show ¬ l2.length < (m : Int).toNat by omega), if_neg (by decide), if_neg (by decide), show ((m : Int)).toNat = m by omega]
   have e1 : decide ((m : Int) > (l2.length : Int)) = false := decide_eq_false (by omega)
   have e2 : decide (l2.length < m) = false := decide_eq_false (by omega)
   have y0 : ((0 : Int) ≤ (m : Int)) = True := eq_true (by omega)
   have y1 : ((m : Int) ≤ (l2.length : Int)) = True := eq_true (by omega)
   have HM := Aside0.mk (show m ≤ l2.length by omega)
   clear h
   go_enter Tryd.func31, Tryd.ntmps31
   go_wp2_with (first | (go_at_call 30; (with_reducible refine CN2.out.mono ?_); rintro e w9 ⟨rfl, hRd, hB, hK⟩; obtain ⟨A, c, BK, hC, hc⟩ := hRd; have hc0 : w9.cell? ⟨R, 0, none⟩ = some (.slice A l2.length c) := (blk_cell BK 0).trans rfl; have hc1 : w9.cell? ⟨R, 1, none⟩ = some (.bool false) := (blk_cell BK 1).trans rfl; have hf0 := blk_frozen BK 0; have hf1 := blk_frozen BK 1; have y2 : ((l2.length : Int) ≤ (c : Int)) = True := eq_true (by omega); have y3 : ((m : Int) ≤ (c : Int)) = True := eq_true (by have := HM.out; omega); have hcv := Kd.C_string (P := Tryd.prog) (A := A) (c := c) Tryd.underlying27 Tryd.underlying5 Tryd.underlying9 (Kd.C_take (m := m) (Kd.C_below hC hB) HM.out); rw [show (l2.take m).length = m by rw [List.length_take]; have := HM.out; omega] at hcv; have HX := Aside0.mk (And.intro BK (And.intro hC (And.intro hc (And.intro hB hK)))); clear BK hC hc hB hK))
   ·go_ret
    exact ⟨rfl, keep3 HX.out.2.2.2.2 (endF_ok HX.out.1 HX.out.2.2.2.1 HG.out HX.out.2.1 HX.out.2.2.1 m HM.out _ _ ⟨(if_pos (by omega)).symm, by omega⟩ _ rfl)⟩
   ·go_ret
    exact ⟨rfl, keep3 HX.out.2.2.2.2 (endF_ok HX.out.1 HX.out.2.2.2.1 HG.out HX.out.2.1 HX.out.2.2.1 m HM.out _ _ ⟨(if_neg (by omega)).symm, rfl⟩ _ rfl)⟩

end Go.Proofs.YtpgfecaomdioeaaDoor.PCt
namespace Go.Proofs.YtpgfecaomdioeaaDoor.PCt
open Go.RowKit Go.Proofs.YtpgfecaomdioeaaDoor.PCt Go.Proofs.YtpgfecaomdioeaaDoorW.PrintWords Go.Proofs.YtpgfecaomdioeaaDoorW.PrintLast Go.Proofs.YtpgfecaomdioeaaDoorW.PrintMore 
set_option linter.unusedVariables false
set_option linter.unusedSimpArgs false

def setG (x : S44) (i : Nat) (v : Int) : S44 := match i with
 | 0 => { x with f1 := v } | 1 => { x with f2 := v } | 2 => { x with f3 := v } | 3 => { x with f4 := v } | 4 => { x with f5 := v } | _ => { x with f6 := v }
def sixF : Nat → Nat → S44 → List Int → Bool → S44 × List Int × Bool
 | 0, _, x, l, b => (x, l, b)
 | f + 1, i, x, l, b => sixF f (i + 1) (setG x i (mV l b)) (mR l b) (mB l b)
def nameF (l : List Int) (b : Bool) : S44 := { z44 with f0 := xS l b }
def endF (q : S44 × List Int × Bool) : S44 × List Int × Bool :=
 ({ q.1 with f7 := (mV q.2.1 q.2.2 == 1) }, mR q.2.1 q.2.2, mB q.2.1 q.2.2 || decide (mV q.2.1 q.2.2 > 1))
def rdF (l : List Int) (b : Bool) : S44 × List Int × Bool := endF (sixF 6 0 (nameF l b) (xR l b) (xT l b))
/-- n rounds at most, as long as nothing is bad. -/
def jobsF : Nat → List Int → Bool → List S44 → List S44 × List Int × Bool
 | 0, l, b, t => (t, l, b)
 | n + 1, l, b, t => if b = true then (t, l, b) else jobsF n (rdF l b).2.1 (rdF l b).2.2 (t ++ [(rdF l b).1])
def cellsF (x : S44) : Array Value := #[.string x.f0, .int .i64 x.f1, .int .i64 x.f2, .int .i64 x.f3, .int .i64 x.f4, .int .i64 x.f5, .int .i64 x.f6, .bool x.f7]
structure JF (W wr w : World) (R J : Nat) (l : List Int) (b : Bool) (x : S44) : Prop where
 rd : RdrF W w R l b
 bl : Below W.heap.size W w
 kp : KeepBut wr w R none
 jb : w.heap[J]? = some (.cells (cellsF x) 44 (0, 0))
 gR : W.heap.size ≤ R
 gJ : W.heap.size ≤ J
 rJ : wr.heap.size ≤ J
 nJ : J ≠ R
theorem RdrF_far {W w : World} {R J : Nat} {l : List Int} {b : Bool} (h : RdrF W w R l b) (hne : J ≠ R) (i : Nat) (u : Value) : RdrF W (w.setCell ⟨J, i, none⟩ u) R l b := by
 obtain ⟨A, c, BK, h2⟩ := h
 exact ⟨A, c, blk_far BK (fun e => hne e.symm) u, h2⟩
theorem RdrF_alloc {W0 W : World} {R : Nat} {l : List Int} {bad : Bool} (hR : RdrF W0 W R l bad) (o : Obj) : RdrF W0 (W.alloc o) R l bad := by
 obtain ⟨A, c, BK, h⟩ := hR
 exact ⟨A, c, blk_alloc BK o, h⟩
theorem RdrF_grown {W0 W w' : World} {R : Nat} {l : List Int} {bad : Bool} {row : Option Nat} (hR : RdrF W0 W R l bad) (hg : W.grownBy w' row) (hne : some R ≠ row) : RdrF W0 w' R l bad := by
 obtain ⟨A, c, BK, h⟩ := hR
 exact ⟨A, c, blk_grown BK hg hne, h⟩
variable {W wr w : World} {R J : Nat} {l : List Int} {b : Bool} {x : S44}
theorem JF.num (h : JF W wr w R J l b x) (hb : ∀ c ∈ l, 0 ≤ c ∧ c < 256) (hl : l.length ≤ 1000000) :
  Calls Tryd.prog 30 #[.pointer (some ⟨R, 0, none⟩)] w fun e w' => e = .returned (.int .i64 (mV l b)) ∧ JF W wr w' R J (mR l b) (mB l b) x := by
 refine (num_c W w R l b h.rd h.bl h.gR hb hl).mono ?_
 rintro e w' ⟨rfl, hRd, hB, hK⟩
 exact ⟨rfl, hRd, hB, keep_trans h.kp hK, heap_keep hK h.jb h.nJ, h.gR, h.gJ, h.rJ, h.nJ⟩
theorem JF.set (h : JF W wr w R J l b x) (i : Nat) (u : Value) (y : S44) (hi : i < 8) (hy : (cellsF x).set! i u = cellsF y) : JF W wr (w.setCell ⟨J, i, none⟩ u) R J l b y := by
 refine ⟨RdrF_far h.rd h.nJ _ _, low_set h.bl h.gJ _ _, keep_new h.kp h.rJ _ _, ?_, h.gR, h.gJ, h.rJ, h.nJ⟩
 rw [← hy]
 exact blk_put h.jb i u rfl
theorem JF.bad (h : JF W wr w R J l b x) (b' : Bool) : JF W wr (w.setCell ⟨R, 1, none⟩ (.bool b')) R J l b' x := by
 obtain ⟨A, c, BK, hC, hc⟩ := h.rd
 exact ⟨⟨A, c, blk_put BK 1 _ rfl, hC, hc⟩, low_set h.bl h.gR _ _, keep_set h.kp _ _, blk_far h.jb h.nJ _, h.gR, h.gJ, h.rJ, h.nJ⟩
theorem jf0 {w11 : World} (x : S44) (hRd : RdrF W w11 R l b) (hB : Below W.heap.size W w11) (hK : KeepBut wr w11 R none) (hg : W.heap.size ≤ R) :
  JF W wr (w11.alloc (.cells (cellsF x) 44)) R w11.heap.size l b x := by
 have hlt : R < w11.heap.size := by obtain ⟨_, _, BK, _⟩ := hRd; exact blk_lt BK
 exact ⟨RdrF_alloc hRd _, below_alloc hB _, keep_trans hK (KeepBut.of_below (below_alloc (Below.refl _ _) _) _ _), blk_new _ _, hg, below_size hB, hK.1, by omega⟩
theorem xR_mem (l : List Int) (b : Bool) (c : Int) (h : c ∈ xR l b) : c ∈ l := by
 unfold xR at h
 split at h
 ·exact mR_mem l b c h
 ·exact mR_mem l b c (List.mem_of_mem_drop h)
theorem xR_le (l : List Int) (b : Bool) : (xR l b).length ≤ l.length := by
 unfold xR
 split
 ·exact mR_le l b
 ·rw [List.length_drop]; have := mR_le l b; omega
theorem xS_le (l : List Int) (b : Bool) : (xS l b).size ≤ l.length := by
 unfold xS
 split
 ·exact Nat.zero_le _
 ·rw [strOfNums_size, List.length_take]; have := mR_le l b; omega
theorem mB_lt (l : List Int) (b : Bool) (hb : ∀ x ∈ l, 0 ≤ x ∧ x < 256) (h : mB l b = false) : (mR l b).length + 1 ≤ l.length := by
 unfold mB at h
 rw [Bool.or_eq_false_iff] at h
 obtain ⟨rfl, h2⟩ := h
 unfold mR
 rw [if_neg (by decide)]
 cases hq : grpL l 0 0 with
 | none => rw [hq] at h2; cases h2
 | some p =>
  have := grpL_bd l 0 0 p.1 p.2 hb (by decide) (by decide) hq
  show (l.drop p.2).length + 1 ≤ _
  rw [List.length_drop]
  omega
theorem sixF_le : ∀ (f i : Nat) (x : S44) (l : List Int) (b : Bool), (sixF f i x l b).2.1.length ≤ l.length ∧ ∀ c ∈ (sixF f i x l b).2.1, c ∈ l
 | 0, _, _, _, _ => ⟨Nat.le_refl _, fun _ h => h⟩
 | f + 1, i, x, l, b => by
  have h := sixF_le f (i + 1) (setG x i (mV l b)) (mR l b) (mB l b)
  exact ⟨Nat.le_trans h.1 (mR_le l b), fun c hc => mR_mem l b c (h.2 c hc)⟩
theorem rdF_lt (l : List Int) (hb : ∀ x ∈ l, 0 ≤ x ∧ x < 256) : (rdF l false).2.2 = true ∨ (rdF l false).2.1.length + 1 ≤ l.length := by
 have h := sixF_le 6 0 (nameF l false) (xR l false) (xT l false)
 unfold rdF
 generalize sixF 6 0 (nameF l false) (xR l false) (xT l false) = q at h ⊢
 unfold endF
 cases hm : mB q.2.1 q.2.2 with
 | true => exact .inl rfl
 | false =>
  refine .inr ?_
  have h2 := mB_lt q.2.1 q.2.2 (fun c hc => hb c (xR_mem l false c (h.2 c hc))) hm
  have h3 := xR_le l false
  show (mR q.2.1 q.2.2).length + 1 ≤ l.length
  have := h.1
  omega

end Go.Proofs.YtpgfecaomdioeaaDoor.PCt
namespace Go.Proofs.YtpgfecaomdioeaaDoor.PCt
open Go.RowKit Go.Proofs.YtpgfecaomdioeaaDoor.PCt Go.Proofs.YtpgfecaomdioeaaDoorW.PrintWords Go.Proofs.YtpgfecaomdioeaaDoorW.PrintLast Go.Proofs.YtpgfecaomdioeaaDoorW.PrintMore Go.Proofs.YtpgfecaomdioeaaDoor.PGd
set_option linter.unusedVariables false
set_option linter.unusedSimpArgs false

open Go.Lib
def bL (s : ByteArray) : List UInt8 := s.data.toList
theorem bL_len (s : ByteArray) : (bL s).length = s.size := (Lib.size_eq s).symm
theorem goodF_valid (s : ByteArray) : ∀ f p n m, s.size ≤ p + f → p ≤ s.size → goodF (runesF s f p) n = some m → validD ((bL s).drop p) = true := by
 intro f
 have ends : ∀ p, p = s.size → validD ((bL s).drop p) = true := by
  rintro p rfl
  rw [List.drop_eq_nil_of_le (by rw [bL_len]; exact Nat.le_refl _)]
  rfl
 induction f with
 | zero => intro p n m h0 h1 _; exact ends p (by omega)
 | succ f ih =>
  intro p n m h0 h1 h
  by_cases hp : p < s.size
  ·rw [runesF_step s f p hp] at h
   have hF := decode_fits s p hp
   have hK := Lib.decode_width_pos s p hp
   have hne : (bL s).drop p ≠ [] := by
    intro e
    have := congrArg List.length e
    rw [List.length_drop, bL_len] at this
    simp only [List.length_nil] at this
    omega
   rw [validD_step _ hne, show decodeL ((bL s).drop p) = Utf8.decode s p from decodeL_drop s p, List.drop_drop]
   simp only [goodF] at h
   split at h
   ·rename_i hc
    have hr : (Utf8.decode s p).1 ≠ 65533 := by
     intro e
     rw [e] at hc
     simp only [Bool.or_eq_true, Bool.and_eq_true, decide_eq_true_eq] at hc
     rcases hc with hc | ⟨_, hc | hc⟩
     ·exact (letter_not _ hc).1 rfl
     ·simp [isDig] at hc
     ·omega
    rw [if_neg (fun hx => hr hx.1)]
    exact ih (p + (Utf8.decode s p).2) _ m (by omega) (by omega) h
   ·cases h
  ·exact ends p (by omega)
theorem good_same (s : ByteArray) : goodB s = refName s := by
 unfold goodB refName
 cases hg : goodF (runes s) 0 with
 | none => simp
 | some n =>
  have hl := goodF_len _ _ _ hg
  have hv := goodF_valid s s.size 0 0 n (by omega) (Nat.zero_le _) hg
  rw [List.drop_zero] at hv
  rw [Nat.zero_add] at hl
  simp only [Option.isSome_some, Bool.and_true, hl]
  rw [show validD s.data.toList = true from hv, Bool.and_true]

def goodR (x : S44) : Bool := goodJB x.f0 x.f1 x.f2 x.f3 x.f4 x.f5 x.f6
theorem goodR_is (x : S44) (hz : x.f0.size ≤ 1000000) : tocsinref8_Good.f x.f0 x.f1 x.f2 x.f3 x.f4 x.f5 x.f6 x.f7 = some (goodR x) := by
 unfold tocsinref8_Good.f tocsinref8_GoodName.f goodR goodJB
 rw [if_pos (show x.f0.size ≤ PGd.lim from by unfold PGd.lim; omega), Option.bind_some, good_same]
 cases refName x.f0
 ·simp
 ·repeat' split
  all_goals (congr 1; simp_all)
  all_goals omega
theorem All_l0 (l : List S44) (hz : ∀ x ∈ l, x.f0.size ≤ 1000000) (hl : l.length ≤ 1000000) : ∀ d p k, p + d = l.length → d < k → tocsinref8_All.l0 k l p = some ((l.drop p).all goodR && decide (l.length ≤ 200)) := by
 intro d
 induction d with
 | zero =>
  intro p k hp hk
  obtain ⟨k, rfl⟩ : ∃ k', k = k' + 1 := ⟨k - 1, by omega⟩
  unfold tocsinref8_All.l0
  rw [if_neg (by omega), List.drop_of_length_le (by omega)]
  congr 1
  rw [List.all_nil, Bool.true_and, decide_eq_decide]
  omega
 | succ d ih =>
  intro p k hp hk
  obtain ⟨k, rfl⟩ : ∃ k', k = k' + 1 := ⟨k - 1, by omega⟩
  have hdrop : l.drop p = rd_T44 l (p : Int) :: l.drop (p + 1) := by
   rw [List.drop_eq_getElem_cons (by omega)]
   congr 1
   unfold rd_T44
   rw [List.getD_eq_getElem?_getD, show ((p : Int)).toNat = p by omega, List.getElem?_eq_getElem (by omega)]; rfl
  have hm : rd_T44 l (p : Int) ∈ l := List.mem_of_mem_drop (i := p) (by rw [hdrop]; exact List.mem_cons_self ..)
  unfold tocsinref8_All.l0
  rw [if_pos (by omega), if_pos (by omega), goodR_is _ (hz _ hm), Option.bind_some, hdrop, List.all_cons]
  cases goodR (rd_T44 l (p : Int))
  ·rfl
  ·rw [if_pos rfl, w64 ((p : Int) + 1) (by omega) (by omega), show (p : Int) + 1 = ((p + 1 : Nat) : Int) by omega, ih (p + 1) k (by omega) (by omega), Bool.true_and]
theorem All_is (l : List S44) (hz : ∀ x ∈ l, x.f0.size ≤ 1000000) (hl : l.length ≤ 1000000) : tocsinref8_All.f (l.length + 1) l = some (l.all goodR && decide (l.length ≤ 200)) :=
 All_l0 l hz hl l.length 0 (l.length + 1) (by omega) (by omega)
theorem infoRef : (Tryd.prog.info? 44).map (fun i => (i.zero, i.size, i.bytes)) = some (some (.agg #[(.string ⟨#[]⟩), (.int .i64 0), (.int .i64 0), (.int .i64 0), (.int .i64 0), (.int .i64 0), (.int .i64 0), (.bool false)]), 8, 72) := by kernel_rfl
def afterF (l : List Int) (b : Bool) : List S44 × List Int × Bool := jobsF (mV l b).toNat (mR l b) (mB l b) []
def sayF (q : List S44 × List Int × Bool) : List S44 × Bool := if q.2.2 = true then ([], false) else if 0 < q.2.1.length then ([], false) else if (q.1.all goodR && decide (q.1.length ≤ 200)) = true then (q.1, true) else ([], false)
/-- What is ahead of the sum, and whether the sum is right. -/
def openL (l : List Int) : List Int × Bool := if l.length < 4 then ([], false) else (l.take (l.length - 4), wbT l)
def readF (l : List Int) : List S44 × Bool := sayF (afterF (openL l).1 (!(openL l).2))
def FPost (W : World) (r : List S44 × Bool) (e : Ending) (w' : World) : Prop := ∃ v0_ : Value, e = .returned (.tuple #[v0_, .bool r.2]) ∧ Kd.R k44 44 w' W.heap.size (fun _ => True) v0_ r.1 ∧ Below W.heap.size W w'
theorem fpost_bad {W w' : World} {r : List S44 × Bool} (h : r = ([], false)) (hb : Below W.heap.size W w') : FPost W r (.returned (.tuple #[.slice none 0 0, .bool false])) w' := by
 subst h
 exact ⟨_, rfl, Kd.R_nil _ _ _ _ _, hb⟩
theorem boxF (n : Nat) (A : Option Addr) (c : Nat) (l : List Int) (W : World) (w : World) (hC : Kd.C (Kd.int .u8) W A n l) (hl : l.length = n) (hc : n ≤ c) (b : Bool) : RdrF W (w.alloc (.cells #[.slice A n c, .bool b] 66)) w.heap.size l b := by
 subst hl
 exact ⟨A, c, blk_new _ _, hC, hc⟩
/-- The bytes ahead of their sum, whichever way. -/
theorem opened_any (A : Option Addr) (c : Nat) (l : List Int) (W : World) (hr : Kd.C (Kd.int .u8) W A l.length l) (hc : l.length ≤ c) (hl : l.length ≤ 1000000) (hby : ∀ x ∈ l, 0 ≤ x ∧ x < 256) :
  ∃ A' n c', Kd.C (Kd.int .u8) W A' n (openL l).1 ∧ (openL l).1.length = n ∧ n ≤ c' ∧ Calls Tryd.prog 29 #[.slice A l.length c] W fun e w' => e = .returned (.tuple #[.slice A' n c', .bool (openL l).2]) ∧ Below W.heap.size W w' := by
 unfold openL
 by_cases h : l.length < 4
 ·rw [if_pos h]
  exact ⟨none, 0, 0, Kd.C_nil _ _, rfl, Nat.le_refl _, opened_short A c l W h⟩
 ·rw [if_neg h]
  have HL : (l.take (l.length - 4)).length = l.length - 4 := by rw [List.length_take]; omega
  refine ⟨A, l.length - 4, c, ?_, HL, by omega, opened_c A c l W hr hc hl (by omega) hby⟩
  have h2 := Kd.C_take (m := l.length - 4) hr (by omega)
  rw [HL] at h2
  exact h2
theorem openL_mem (l : List Int) (c : Int) (h : c ∈ (openL l).1) : c ∈ l := by
 unfold openL at h
 split at h
 ·cases h
 ·exact List.mem_of_mem_take h
theorem openL_le (l : List Int) : (openL l).1.length ≤ l.length := by
 unfold openL
 split
 ·exact Nat.zero_le _
 ·show (l.take _).length ≤ _; rw [List.length_take]; omega

end Go.Proofs.YtpgfecaomdioeaaDoor.PCt
