/- Any springs pressed into any room, what they have at the least, what they give way, are as the document's own answer says: for every list of springs and every list of shares (of more than twenty-five nothing is asked), and every room. -/
import Derived.Test.YtdpeedkmgegmnaaPElCost
import Derived.Test.YtdpeedkmgegmnaaPElx9
import Derived.Test.YtdpeedkmgegmnaaElKit
import Derived.Deep.Strs
import Derived.Deep.Slices
import Derived.Deep.Fields
import Derived.ChangeArms
import Derived.DataReads
import Derived.Test.YtdpeedkmgegmnaaRows
import Derived.WalkKit
import Derived.ProofKit
import Derived.OpenShut
import Derived.ShutString
import Derived.ChangeOld
import Derived.Below
import Derived.SizedLaws
import Derived.Carry
import Derived.Lib.SmallJoins
import Derived.Test.YtdpeedkmgegmnaaWSized
namespace Go.Proofs.Ytdpeedkmgegmnaa.Pure
open Go.RowKit Go.Proofs.Ytdpeedkmgegmnaa.PEl Go.Proofs.YtdpeedkmgegmnaaW.PrintWords Go.Proofs.YtdpeedkmgegmnaaW.PrintLast Go.Proofs.YtdpeedkmgegmnaaW.PrintMore 
set_option linter.unusedVariables false
set_option linter.unusedSimpArgs false

theorem rsize_is (a : Int) (h0 : -9223372036854775808 ≤ a) (h1 : a ≤ 9223372036854775807) : tocsinref1_size.f a = some (a.natAbs : Int) := by
  unfold tocsinref1_size.f wrap64
  simp only [IntKind.wrap_u64]
  split <;> (congr 1; omega)
theorem rmul_is (a b : Int) (ha0 : 0 ≤ a) (ha1 : a < 18446744073709551616) (hb0 : 0 ≤ b) (hb1 : b < 18446744073709551616) :
    tocsinref1_mul.f a b = some (a * b / 18446744073709551616, a * b % 18446744073709551616) := by
  obtain ⟨p, q, r, s, hp, hq, hr, hs, he, b1⟩ := mul_parts ha0 ha1 hb0 hb1
  unfold tocsinref1_mul.f
  rw [mask32 ha0 ha1, mask32 hb0 hb1, hp, hq, hr, hs, he]
  simp only [IntKind.wrap_u64]
  rw [mask32 (by omega) (by omega), mask32 (by omega) (by omega)]
  rw [bits_join .u64 64 (by decide) (fun n h h' => by rw [IntKind.wrap_u64]; omega) 32 _ _ (by omega) (by omega) (by omega) (by omega) (by omega) (by omega)]
  congr 2 <;> omega
theorem times_is (a b : Int) (ha0 : -9223372036854775808 ≤ a) (ha1 : a ≤ 9223372036854775807) (hb0 : -9223372036854775808 ≤ b) (hb1 : b ≤ 9223372036854775807) :
    tocsinref1_times.f a b = some (decide (a * b < 0), ((a * b).natAbs : Int) / 18446744073709551616, ((a * b).natAbs : Int) % 18446744073709551616) := by
  have hbd := natAbs_bd a b ha0 ha1 hb0 hb1
  unfold tocsinref1_times.f
  rw [rsize_is a ha0 ha1, rsize_is b hb0 hb1]
  simp only [Option.bind_some]
  rw [rmul_is _ _ (by omega) (by omega) (by omega) (by omega), natAbs_mul_i]
  simp only [Option.bind_some]
  have hn := neg_mul_iff a b
  by_cases h : ((decide (a < 0)) != (decide (b < 0))) = true
  · rw [if_pos h]
    have hn : a * b < 0 ↔ a * b ≠ 0 := ⟨fun g => (hn.1 g).2, fun g => hn.2 ⟨h, g⟩⟩
    by_cases g : ((a * b).natAbs : Int) / 18446744073709551616 = 0
    · rw [if_pos g]
      congr 2
      rw [Bool.eq_iff_iff, bne_iff_ne, decide_eq_true_iff]
      omega
    · rw [if_neg g]
      congr 2
      symm; rw [decide_eq_true_iff]; omega
  · rw [if_neg h]
    congr 2
    have : ¬ a * b < 0 := fun g => h (hn.1 g).1
    simp [this]

theorem and_one {x : Int} (h0 : 0 ≤ x) (h1 : x < 18446744073709551616) : Go.bits .and .u64 x 1 = x % 2 :=
  bits_mask .u64 64 (by decide) (fun n h h' => by rw [IntKind.wrap_u64]; omega) 1 (by decide) x h0 h1
theorem or_even {x y : Int} (h0 : 0 ≤ x) (h1 : x < 18446744073709551616) (he : x % 2 = 0) (hy : 0 ≤ y) (hy2 : y < 2) : Go.bits .or .u64 x y = x + y :=
  bits_join .u64 64 (by decide) (fun n h h' => by rw [IntKind.wrap_u64]; omega) 1 x y h0 he h1 hy (by omega) (by omega)
theorem shr_is (x : Int) (n : Nat) (hn : n < 64) : shr .u64 x (IntKind.u64.wrap (n : Int)) = x / 2 ^ n := by
  rw [wu64 (by omega) (by omega)]
  unfold shr
  simp [IntKind.bits]
  rw [Nat.min_eq_left (by omega)]
/-- One bit after the other. -/
theorem rdivide_loop (c hi lo : Int) (bl : Bool) (hc0 : 0 < c) (hc1 : c < 18446744073709551616) (hl0 : 0 ≤ lo) (hl1 : lo < 18446744073709551616) :
    ∀ (n k : Nat) (rest q : Int), n ≤ 64 → n < k → 0 ≤ rest → rest < c → 0 ≤ q → q * 2 ^ n < 18446744073709551616 → q * c + rest = hi * 2 ^ (64 - n) + lo / 2 ^ n →
      tocsinref1_divide.l0 k c rest q ((n : Int) - 1) bl hi lo = some ((hi * 18446744073709551616 + lo) / c, ((hi * 18446744073709551616 + lo) % c != 0), true) := by
  intro n
  induction n with
  | zero =>
    intro k rest q _ hk hr0 hr1 hq0 hq1 he
    obtain ⟨k, rfl⟩ : ∃ m, k = m + 1 := ⟨k - 1, by omega⟩
    simp only [tocsinref1_divide.l0]
    rw [if_neg (by omega)]
    have e : hi * 18446744073709551616 + lo = c * q + rest := by
      have : q * c = c * q := Int.mul_comm _ _
      simp at he
      omega
    rw [e, Int.mul_add_ediv_left _ _ (by omega), Int.mul_add_emod_self_left, Int.ediv_eq_zero_of_lt hr0 hr1, Int.emod_eq_of_lt hr0 hr1]
    simp
  | succ n ih =>
    intro k rest q hn hk hr0 hr1 hq0 hq1 he
    obtain ⟨k, rfl⟩ : ∃ m, k = m + 1 := ⟨k - 1, by omega⟩
    have hp : (0 : Int) < 2 ^ n := Int.pow_pos (by decide)
    have hs : (2 : Int) ^ (n + 1) = 2 * 2 ^ n := by rw [Int.pow_succ]; omega
    have hs2 : (2 : Int) ^ (64 - n) = 2 * 2 ^ (64 - (n + 1)) := by rw [show 64 - n = 64 - (n + 1) + 1 by omega, Int.pow_succ]; omega
    have hb : lo / 2 ^ n = 2 * (lo / 2 ^ (n + 1)) + lo / 2 ^ n % 2 := by
      rw [hs, Int.mul_comm 2 (2 ^ n), ← Int.ediv_ediv_of_nonneg (by omega)]; omega
    have hd0 : 0 ≤ lo / 2 ^ n := Int.ediv_nonneg hl0 (by omega)
    have hd1 : lo / 2 ^ n < 18446744073709551616 := by
      have := Int.ediv_le_self (2 ^ n) hl0; omega
    have hq2 : 2 * q * 2 ^ n < 18446744073709551616 := by rw [hs] at hq1; have : q * (2 * 2 ^ n) = 2 * q * 2 ^ n := by grind
                                                          omega
    have hq3 : 2 * q < 18446744073709551616 := by
      have := Int.mul_le_mul_of_nonneg_left (show (1 : Int) ≤ 2 ^ n by omega) (show 0 ≤ 2 * q by omega); omega
    simp only [tocsinref1_divide.l0]
    rw [show ((n + 1 : Nat) : Int) - 1 = (n : Int) by omega]
    rw [if_pos (by omega), if_pos (by rw [IntKind.wrap_u64]; omega), shr_is lo n (by omega), and_one hd0 hd1]
    generalize hB : lo / 2 ^ n % 2 = B at *
    have hB0 : 0 ≤ B := by omega
    have hB1 : B < 2 := by omega
    rw [or_even (x := IntKind.u64.wrap (rest * 2)) (y := B) (by rw [IntKind.wrap_u64]; omega) (by rw [IntKind.wrap_u64]; omega) (by rw [IntKind.wrap_u64]; omega) hB0 hB1]
    rw [or_even (x := IntKind.u64.wrap (q * 2)) (y := 1) (by rw [IntKind.wrap_u64]; omega) (by rw [IntKind.wrap_u64]; omega) (by rw [IntKind.wrap_u64]; omega) (by omega) (by omega)]
    rw [wu64 (x := q * 2) (by omega) (by omega), w64 (x := (n : Int) - 1) (by omega) (by omega)]
    have he2 : 2 * q * c + (2 * rest + B) = hi * 2 ^ (64 - n) + lo / 2 ^ n := by
      rw [hb, hs2]
      have : 2 * q * c = 2 * (q * c) := by grind
      have : hi * (2 * 2 ^ (64 - (n + 1))) = 2 * (hi * 2 ^ (64 - (n + 1))) := by grind
      omega
    have go : 2 * rest + B ≥ c → tocsinref1_divide.l0 k c (2 * rest + B - c) (q * 2 + 1) ((n : Int) - 1) bl hi lo = some ((hi * 18446744073709551616 + lo) / c, ((hi * 18446744073709551616 + lo) % c != 0), true) := fun hge => by
      refine ih k _ _ (by omega) (by omega) (by omega) (by omega) (by omega) ?_ ?_
      · by_cases hn0 : n = 0
        · subst hn0; simp; omega
        · have : (2 : Int) ^ n = 2 * 2 ^ (n - 1) := by rw [show n = n - 1 + 1 by omega, Int.pow_succ]; simp; omega
          have h64 : (18446744073709551616 : Int) = 2 ^ n * 2 ^ (64 - n) := by rw [← Int.pow_add, show n + (64 - n) = 64 by omega]; rfl
          have hlt : 2 * q < 2 ^ (64 - n) := by
            rw [h64, Int.mul_comm] at hq2
            exact Int.lt_of_mul_lt_mul_left hq2 (by omega)
          have hev : (2 : Int) ^ (64 - n) = 2 * 2 ^ (64 - (n + 1)) := hs2
          have hle : q * 2 + 1 ≤ 2 ^ (64 - n) - 1 := by omega
          have := Int.mul_le_mul_of_nonneg_right hle (show (0 : Int) ≤ 2 ^ n by omega)
          rw [Int.sub_mul, Int.mul_comm (2 ^ (64 - n)), ← h64] at this
          omega
      · have : (q * 2 + 1) * c = 2 * q * c + c := by grind
        omega
    by_cases hcar : rest / 9223372036854775808 = 1
    · rw [if_pos hcar]
      have e : IntKind.u64.wrap (IntKind.u64.wrap (rest * 2) + B - c) = 2 * rest + B - c := by
        simp only [IntKind.wrap_u64]; omega
      rw [e]
      exact go (by omega)
    · rw [if_neg hcar]
      rw [wu64 (x := rest * 2) (by omega) (by omega)]
      by_cases hge : rest * 2 + B ≥ c
      · rw [if_pos hge, wu64 (x := rest * 2 + B - c) (by omega) (by omega), show rest * 2 + B - c = 2 * rest + B - c by omega]
        exact go (by omega)
      · rw [if_neg hge]
        refine ih k _ _ (by omega) (by omega) (by omega) (by omega) (by omega) (by rw [Int.mul_comm q 2]; exact hq2) ?_
        rw [Int.mul_comm q 2]
        omega
theorem rdivide_is (k : Nat) (c P : Int) (bl : Bool) (hc0 : 0 < c) (hc1 : c < 18446744073709551616) (hP0 : 0 ≤ P) (hk : 65 ≤ k) :
    tocsinref1_divide.f k bl (P / 18446744073709551616) (P % 18446744073709551616) c = some (if c ≤ P / 18446744073709551616 then (0, false, false) else (P / c, (P % c != 0), true)) := by
  unfold tocsinref1_divide.f
  by_cases h : P / 18446744073709551616 ≥ c
  · rw [if_pos h, if_pos h]
  · rw [if_neg h, if_neg (by omega)]
    have := rdivide_loop c (P / 18446744073709551616) (P % 18446744073709551616) bl hc0 hc1 (by omega) (by omega) 64 k (P / 18446744073709551616) 0 (by omega) (by omega) (by omega) (by omega) (by omega) (by omega) (by
      have : P % 18446744073709551616 / 2 ^ 64 = 0 := Int.ediv_eq_zero_of_lt (by omega) (by omega)
      rw [this]; simp)
    rw [show P / 18446744073709551616 * 18446744073709551616 + P % 18446744073709551616 = P by omega] at this
    exact this
theorem rsigned_is (q : Int) (bl : Bool) (h0 : 0 ≤ q) (h1 : q < 18446744073709551616) : tocsinref1_signed.f q bl = some (held64 (if bl = true then -q else q)) := by
  unfold tocsinref1_signed.f
  cases bl
  · simp only [Bool.false_eq_true, if_false]
    by_cases h : q > 9223372036854775807
    · rw [if_pos h, held64_out (by omega)]
    · rw [if_neg h, held64_in (by omega) (by omega), w64 (by omega) (by omega)]
  · simp only [if_true]
    by_cases h : q > 9223372036854775808
    · rw [if_pos h, held64_out (by omega)]
    · rw [if_neg h, held64_in (by omega) (by omega)]
      congr 2
      rw [IntKind.wrap_u64]; unfold wrap64; omega
theorem rpart_is (k : Nat) (a b c : Int) (up : Bool) (ha : -9223372036854775808 ≤ a ∧ a ≤ 9223372036854775807) (hb : -9223372036854775808 ≤ b ∧ b ≤ 9223372036854775807) (hc : c ≤ 9223372036854775807) (hk : 66 ≤ k) :
    tocsinref1_part.f k a b c up = some (if up = true then upI a b c else shareI a b c) := by
  obtain ⟨k, rfl⟩ : ∃ m, k = m + 1 := ⟨k - 1, by omega⟩
  have hP := natAbs_bd a b ha.1 ha.2 hb.1 hb.2
  have hP0 : 0 ≤ ((a * b).natAbs : Int) := by omega
  have hs := divd_share a b c
  unfold tocsinref1_part.f shareI upI
  by_cases h : c < 1
  · simp only [h, if_true, ite_self]
  · have hs := hs (by omega)
    obtain ⟨s1, s2⟩ := hs
    rw [if_neg h, if_neg h, if_neg h, times_is a b ha.1 ha.2 hb.1 hb.2, wu64 (x := c) (by omega) (by omega)]
    simp only [Option.bind_some]
    rw [rdivide_is (k + 1) c _ _ (by omega) (by omega) hP0 (by omega)]
    have hm0 := Int.emod_nonneg ((a * b).natAbs : Int) (show c ≠ 0 by omega)
    have hd0 : 0 ≤ ((a * b).natAbs : Int) / c := Int.ediv_nonneg hP0 (by omega)
    have hbig : c ≤ ((a * b).natAbs : Int) / 18446744073709551616 → 18446744073709551616 ≤ ((a * b).natAbs : Int) / c := fun g => by
      rw [Int.le_ediv_iff_mul_le (by omega)]; omega
    have hsm : ¬ c ≤ ((a * b).natAbs : Int) / 18446744073709551616 → ((a * b).natAbs : Int) / c < 18446744073709551616 := fun g => by
      rw [Int.ediv_lt_iff_lt_mul (by omega)]; omega
    rw [← s1, ← s2]
    generalize ((a * b).natAbs : Int) / 18446744073709551616 = hi at *
    generalize ((a * b).natAbs : Int) / c = q at *
    generalize ((a * b).natAbs : Int) % c = m at *
    simp only [Option.bind_some]
    by_cases g : c ≤ hi
    · have hbig := hbig g
      rw [if_pos g]
      simp only [Bool.false_eq_true, if_false]
      congr 1; symm
      split
      · rw [held64_out]; repeat' split
        all_goals omega
      · rw [held64_out]; repeat' split
        all_goals omega
    · have hsm := hsm g
      rw [if_neg g]
      simp only [if_true, tocsinref1_part.j0]
      by_cases hm : m = 0
      · subst hm
        simp only [bne_self_eq_false, Bool.false_eq_true, if_false, Int.lt_irrefl, and_false, Int.sub_zero, Int.add_zero, ite_self]
        rw [rsigned_is _ _ hd0 hsm]
        simp only [Option.bind_some, decide_eq_true_eq]
        congr 1
        show held64 _ = held64 _
        congr 1; split <;> omega
      · have hmb : (m != 0) = true := by rw [bne_iff_ne]; exact hm
        have hm1 : 0 < m := by omega
        rw [hmb]
        simp only [if_true, hm1, and_true]
        by_cases hx : a * b < 0
        · simp only [hx, decide_true, if_true, not_true_eq_false, if_false, Int.add_zero]
          cases up
          · simp only [Bool.false_bne, if_true, Bool.false_eq_true, if_false]
            by_cases hq : q = 18446744073709551615
            · rw [if_pos hq, held64_out (by omega)]
            · rw [if_neg hq, wu64 (by omega) (by omega), rsigned_is _ _ (by omega) (by omega)]
              simp only [Option.bind_some, if_true]
              congr 1
              show held64 _ = held64 _
              congr 1; omega
          · simp only [bne_self_eq_false, Bool.false_eq_true, if_false, if_true]
            rw [rsigned_is _ _ hd0 hsm]
            simp only [Option.bind_some, if_true]
            congr 1
            show held64 _ = held64 _
            congr 1; omega
        · simp only [hx, decide_false, if_false, not_false_eq_true, if_true, Int.sub_zero, Int.mul_one]
          cases up
          · simp only [bne_self_eq_false, Bool.false_eq_true, if_false]
            rw [rsigned_is _ _ hd0 hsm]
            simp only [Option.bind_some, Bool.false_eq_true, if_false]
          · simp only [Bool.true_bne, Bool.not_false, if_true]
            by_cases hq : q = 18446744073709551615
            · rw [if_pos hq, held64_out (by omega)]
            · rw [if_neg hq, wu64 (by omega) (by omega), rsigned_is _ _ (by omega) (by omega)]
              simp only [Option.bind_some, Bool.false_eq_true, if_false]

theorem sub_is (a b : Int) (ha0 : -9223372036854775808 ≤ a) (ha1 : a ≤ 9223372036854775807) (hb0 : -9223372036854775808 ≤ b) (hb1 : b ≤ 9223372036854775807) :
    num_Sub.f a b = some (held64 (a - b)) := by
  unfold num_Sub.f
  by_cases h : -9223372036854775808 ≤ a - b ∧ a - b ≤ 9223372036854775807
  · rw [held64_in h.1 h.2, w64 h.1 h.2]
    repeat' split
    all_goals first | rfl | omega
  · rw [held64_out (by omega)]
    unfold wrap64
    repeat' split
    all_goals first | rfl | omega
theorem rsub_is (a b : Int) (ha : -9223372036854775808 ≤ a ∧ a ≤ 9223372036854775807) (hb : -9223372036854775808 ≤ b ∧ b ≤ 9223372036854775807) : tocsinref1_Sub.f a b = some (held64 (a - b)) := by
  unfold tocsinref1_Sub.f
  by_cases h : -9223372036854775808 ≤ a - b ∧ a - b ≤ 9223372036854775807
  · rw [held64_in h.1 h.2, w64 h.1 h.2]
    repeat' split
    all_goals first | rfl | omega
  · rw [held64_out (by omega)]
    unfold wrap64
    repeat' split
    all_goals first | rfl | omega

/-! The reference's springs, in plain numbers. -/
abbrev SpR := S52
def conv (x : SpE) : SpR := ⟨x.f0, x.f1, x.f2⟩
theorem rd_conv (l : List SpE) (i : Nat) (h : i < l.length) : rd_T52 (l.map conv) (i : Int) = ⟨eW l i, eL l i, eS l i⟩ := by
  unfold rd_T52 eW eL eS rd_T29
  rw [show ((i : Int)).toNat = i by omega, List.getD_eq_getElem?_getD, List.getElem?_map, List.getElem?_eq_getElem h, List.getD_eq_getElem?_getD, List.getElem?_eq_getElem h]; rfl
theorem own_loop (l : List SpE) (hlen : l.length ≤ 1000) : ∀ (d k i : Nat) (acc : List SpR), i ≤ l.length → l.length - i = d → d < k → acc = (l.take i).map conv →
    tocsinlaw13_own.l0 k l acc (i : Int) = some (l.map conv) := by
  intro d
  induction d with
  | zero =>
    intro k i acc hi hd hk ha
    obtain ⟨k, rfl⟩ : ∃ m, k = m + 1 := ⟨k - 1, by omega⟩
    simp only [tocsinlaw13_own.l0]
    rw [List.take_of_length_le (by omega)] at ha
    rw [if_neg (by omega), ha]
  | succ d ih =>
    intro k i acc hi hd hk ha
    obtain ⟨k, rfl⟩ : ∃ m, k = m + 1 := ⟨k - 1, by omega⟩
    simp only [tocsinlaw13_own.l0]
    have hlen2 : acc.length ≤ 1000 := by subst ha; simp; omega
    have hget : l[i]'(by omega) = rd_T29 l (i : Int) := by
      unfold rd_T29
      rw [show ((i : Int)).toNat = i by omega, List.getD_eq_getElem?_getD, List.getElem?_eq_getElem (by omega)]; rfl
    rw [if_pos (by omega), if_pos (by omega), if_pos (by omega), w64 (x := (i : Int) + 1) (by omega) (by omega)]
    refine ih k (i + 1) _ (by omega) (by omega) (by omega) ?_
    rw [List.take_succ_eq_append_getElem (by omega), List.map_append, ← ha, hget]; rfl
theorem own_is (k : Nat) (l : List SpE) (hlen : l.length ≤ 100) (hk : 101 ≤ k) : tocsinlaw13_own.f k l = some (l.map conv) := by
  unfold tocsinlaw13_own.f
  exact own_loop l (by omega) l.length k 0 [] (by omega) (by omega) (by omega) rfl
theorem rgoodS_is (p n s : Int) : tocsinref1_GoodSpring.f p n s = some (goodSB p n s) := by
  unfold tocsinref1_GoodSpring.f goodSB
  repeat' split
  all_goals (congr 1; first | rfl | (rw [decide_eq_decide]; omega) | (symm; rw [decide_eq_true_iff]; omega) | (symm; rw [decide_eq_false_iff_not]; omega))
theorem good_all (l : List SpE) : (∀ t ∈ l, goodSB t.f0 t.f1 t.f2 = true) ↔ ∀ i, i < l.length → goodSB (eW l i) (eL l i) (eS l i) = true := by
  constructor
  · intro h i hi; exact h _ (rdT_mem l i hi)
  · intro h t ht
    obtain ⟨i, hi, rfl⟩ := List.getElem_of_mem ht
    have := h i hi
    unfold eW eL eS rd_T29 at this
    rw [show ((i : Int)).toNat = i by omega, List.getD_eq_getElem?_getD, List.getElem?_eq_getElem hi] at this
    exact this
theorem springs_loop (l : List SpE) (hlen : l.length ≤ 1000) : ∀ (d k i : Nat), i ≤ l.length → l.length - i = d → d + 1 < k → (∀ j, j < i → goodSB (eW l j) (eL l j) (eS l j) = true) →
    tocsinref1_springs.l0 k (l.map conv) (i : Int) = some (decide (goodL l)) := by
  intro d
  induction d with
  | zero =>
    intro k i hi hd hk hp
    obtain ⟨k, rfl⟩ : ∃ m, k = m + 1 := ⟨k - 1, by omega⟩
    simp only [tocsinref1_springs.l0]
    obtain rfl : i = l.length := by omega
    rw [List.length_map, if_neg (by omega)]
    congr 1
    rw [decide_eq_decide]
    constructor
    · intro g; exact ⟨by omega, (good_all l).2 hp⟩
    · intro g; have := g.1; omega
  | succ d ih =>
    intro k i hi hd hk
    obtain ⟨k, rfl⟩ : ∃ m, k = m + 1 := ⟨k - 1, by omega⟩
    have a1 := ih k (i + 1) (by omega) (by omega) (by omega)
    have a2 : i < l.length := by omega
    intro hp
    simp only [tocsinref1_springs.l0]
    rw [List.length_map, if_pos (by omega), if_pos (by omega), rd_conv l i a2]
    simp only [rgoodS_is, Option.bind_some]
    rw [w64 (x := (i : Int) + 1) (by omega) (by omega), show ((i : Int) + 1) = ((i + 1 : Nat) : Int) by omega]
    cases hc : goodSB (eW l i) (eL l i) (eS l i)
    · simp only [Bool.false_eq_true, if_false]
      congr 1; symm; rw [decide_eq_false_iff_not]
      intro g
      have := (good_all l).1 g.2 i a2
      rw [hc] at this; cases this
    · simp only [if_true]
      refine a1 fun j hj => ?_
      by_cases e : j = i
      · subst e; exact hc
      · exact hp j (by omega)
theorem springs_is (k : Nat) (l : List SpE) (hlen : l.length ≤ 100) (hk : 110 ≤ k) : tocsinref1_springs.f k (l.map conv) = some (decide (goodL l)) := by
  unfold tocsinref1_springs.f
  exact springs_loop l (by omega) l.length k 0 (by omega) (by omega) (by omega) fun j hj => absurd hj (by omega)
theorem rfloor_loop {l : List SpE} (hg : goodL l) : ∀ (d k i : Nat), i ≤ l.length → l.length - i = d → d + 1 < k →
    tocsinref1_Floor.l0 k (l.map conv) (sumN (fl (eW l) (eL l) (eS l)) i) (i : Int) = some (sumN (fl (eW l) (eL l) (eS l)) l.length, true) := by
  intro d
  induction d with
  | zero =>
    intro k i hi hd hk
    obtain ⟨k, rfl⟩ : ∃ m, k = m + 1 := ⟨k - 1, by omega⟩
    simp only [tocsinref1_Floor.l0]
    rw [List.length_map, if_neg (by omega), show i = l.length by omega]
  | succ d ih =>
    intro k i hi hd hk
    obtain ⟨k, rfl⟩ : ∃ m, k = m + 1 := ⟨k - 1, by omega⟩
    simp only [tocsinref1_Floor.l0]
    have hlen := hg.1
    have hb := sumN_bd (f := fl (eW l) (eL l) (eS l)) i fun j hj => fl_bd hg j (by omega)
    have hb2 := fl_bd hg i (by omega)
    have hgi := good_N hg i (by omega)
    have e : sumN (fl (eW l) (eL l) (eS l)) (i + 1) = sumN (fl (eW l) (eL l) (eS l)) i + fl (eW l) (eL l) (eS l) i := rfl
    have := ih k (i + 1) (by omega) (by omega) (by omega)
    rw [e] at this
    rw [List.length_map, if_pos (by omega), if_pos (by omega), rd_conv l i (by omega)]
    simp only
    rw [w64 (x := (i : Int) + 1) (by omega) (by omega), show ((i : Int) + 1) = ((i + 1 : Nat) : Int) by omega]
    unfold fl at this hb hb2 ⊢
    by_cases h : eS l i = 0
    · rw [if_pos h] at this hb2
      rw [if_pos h, w64 (by omega) (by omega)]; exact this
    · rw [if_neg h] at this hb2
      rw [if_neg h, w64 (by omega) (by omega)]; exact this
theorem rFloor_is (k : Nat) (l : List SpE) (hlen : l.length ≤ 100) (hk : 110 ≤ k) : tocsinref1_Floor.f k (l.map conv) = some (if goodL l then (sumN (fl (eW l) (eL l) (eS l)) l.length, true) else (0, false)) := by
  unfold tocsinref1_Floor.f
  rw [springs_is k l hlen hk]
  simp only [Option.bind_some]
  by_cases hg : goodL l
  · rw [decide_eq_true hg, if_pos rfl, if_pos hg]
    exact rfloor_loop hg l.length k 0 (by omega) (by omega) (by omega)
  · rw [decide_eq_false hg, if_neg (by simp), if_neg hg]
/-- What the springs cost is one number, either way. -/
theorem cost_loop {l : List SpE} (hg : goodL l) (x : List Int) (hx : x.length = l.length) (hw : ∀ n ∈ x, -9223372036854775808 ≤ n ∧ n ≤ 9223372036854775807) : ∀ (d k i : Nat) (acc : Int), i ≤ l.length → l.length - i = d → d + 1 < k →
    ∃ r, elastic_Cost.l0 k x acc l (l.length : Int) (i : Int) = some r ∧ tocsinref1_Cost.l0 k (l.map conv) x acc (i : Int) = some r := by
  intro d
  induction d with
  | zero =>
    intro k i acc hi hd hk
    obtain ⟨k, rfl⟩ : ∃ m, k = m + 1 := ⟨k - 1, by omega⟩
    simp only [elastic_Cost.l0, tocsinref1_Cost.l0]
    rw [List.length_map, if_neg (by omega), if_neg (by omega)]
    exact ⟨_, rfl, rfl⟩
  | succ d ih =>
    intro k i acc hi hd hk
    obtain ⟨k, rfl⟩ : ∃ m, k = m + 1 := ⟨k - 1, by omega⟩
    simp only [elastic_Cost.l0, tocsinref1_Cost.l0]
    have hlen := hg.1
    have hgi := good_N hg i (by omega)
    rw [List.length_map, if_pos (show (i : Int) < (l.length : Int) by omega), if_pos (show (0 : Int) ≤ (i : Int) by omega), if_pos (show (i : Int) < (l.length : Int) by omega), if_pos (show (i : Int) < (l.length : Int) by omega), if_pos (show (0 : Int) ≤ (i : Int) by omega), rd_conv l i (by omega)]
    rw [show (rd_T29 l (i : Int)).f0 = eW l i from rfl, show (rd_T29 l (i : Int)).f2 = eS l i from rfl]
    simp only
    rw [w64 (x := (i : Int) + 1) (by omega) (by omega), show ((i : Int) + 1) = ((i + 1 : Nat) : Int) by omega]
    have hxi : -9223372036854775808 ≤ rd x (i : Int) ∧ rd x (i : Int) ≤ 9223372036854775807 := by
      refine hw _ ?_
      unfold rd
      rw [show ((i : Int)).toNat = i by omega, List.getD_eq_getElem?_getD, List.getElem?_eq_getElem (by omega)]
      exact List.getElem_mem _
    by_cases h : eS l i = 0
    · rw [if_pos h, if_pos h]
      exact ih k (i + 1) acc (by omega) (by omega) (by omega)
    · rw [if_neg h, if_neg h, if_pos (by omega), if_pos (by omega), sub_is _ _ (by omega) (by omega) hxi.1 hxi.2, rsub_is _ _ ⟨by omega, by omega⟩ hxi]
      simp only [Option.bind_some]
      split
      · split
        · exact ⟨_, rfl, rfl⟩
        · split
          · exact ⟨_, rfl, rfl⟩
          · exact ih k (i + 1) _ (by omega) (by omega) (by omega)
      · exact ⟨_, rfl, rfl⟩
theorem cost_both (k : Nat) (l : List SpE) (hlen : l.length ≤ 100) (x : List Int) (hw : ∀ n ∈ x, -9223372036854775808 ≤ n ∧ n ≤ 9223372036854775807) (hk : 150 ≤ k) :
    ∃ r, elastic_Cost.f k l x = some r ∧ tocsinref1_Cost.f k (l.map conv) x = some r := by
  obtain ⟨k, rfl⟩ : ∃ m, k = m + 1 := ⟨k - 1, by omega⟩
  unfold elastic_Cost.f tocsinref1_Cost.f
  rw [springs_is _ l hlen (by omega), all_is]
  simp only [Option.bind_some, elastic_Cost.j0, tocsinref1_Cost.j0, List.length_map]
  by_cases hx : x.length = l.length
  · rw [if_pos (by omega)]
    by_cases hg : goodL l
    · rw [decide_eq_true hg]
      simp only [Bool.not_true, Bool.false_eq_true, if_false, if_true]
      rw [show ((x.length : Int) != (l.length : Int)) = false by rw [hx]; simp]
      simp only [Bool.false_eq_true, if_false]
      exact cost_loop hg x hx hw l.length k 0 0 (by omega) (by omega) (by omega)
    · rw [decide_eq_false hg]
      exact ⟨_, rfl, rfl⟩
  · rw [if_neg (by omega)]
    have hb : ((x.length : Int) != (l.length : Int)) = true := by rw [bne_iff_ne]; omega
    rw [hb]
    simp only [if_true, ite_self]
    exact ⟨_, rfl, rfl⟩
/-- What the reference keeps of shares while it runs: the least of those held, what others want. -/
def keptN (l : List SpE) (h : Nat → Bool) (j : Nat) : Int := if h j = true then fl (eW l) (eL l) (eS l) j else eW l j
theorem r1_loop {l : List SpE} (hg : goodL l) (h : Nat → Bool) (room : Int) (h0 : 0 ≤ room) (h1 : room ≤ 67108864) (hso : so l.length (eS l) h ≠ 0) : ∀ (d k i : Nat), i ≤ l.length → l.length - i = d → d + 1 < k →
    ∃ k', k ≤ k' + d + 1 ∧ tocsinref1_Press.l2 k (l.map conv) room ((List.range l.length).map (keptN l h)) ((List.range l.length).map h) (sumN (fun j => if h j = true then fl (eW l) (eL l) (eS l) j else eW l j) i - room) (sumN (fun j => if h j = true then 0 else eS l j) i) (i : Int)
      = tocsinref1_Press.l3 k' (l.map conv) room ((List.range l.length).map (keptN l h)) ((List.range l.length).map h) (mu l.length (eW l) (eL l) (eS l) h room) (so l.length (eS l) h) false ((List.range l.length).map h) 0 := by
  intro d
  induction d with
  | zero =>
    intro k i hi hd hk
    obtain ⟨k, rfl⟩ : ∃ m, k = m + 1 := ⟨k - 1, by omega⟩
    refine ⟨k, by omega, ?_⟩
    simp only [tocsinref1_Press.l2]
    have hlen := hg.1
    obtain rfl : i = l.length := by omega
    have hso' : sumN (fun j => if h j = true then 0 else eS l j) l.length ≠ 0 := hso
    rw [List.length_map, if_neg (by omega), if_neg hso']
    simp only [Option.bind_some, List.nil_append]
    rw [if_pos (by simp; omega)]; rfl
  | succ d ih =>
    intro k i hi hd hk
    obtain ⟨k, rfl⟩ : ∃ m, k = m + 1 := ⟨k - 1, by omega⟩
    obtain ⟨k', hk', this⟩ := ih k (i + 1) (by omega) (by omega) (by omega)
    refine ⟨k', by omega, ?_⟩
    simp only [tocsinref1_Press.l2]
    have hlen := hg.1
    have hb := sumN_bd (f := fun j => if h j = true then fl (eW l) (eL l) (eS l) j else eW l j) i fun j hj => by
      have := fl_bd hg j (by omega); have := good_N hg j (by omega); split <;> omega
    have hc := sumN_bd (f := fun j => if h j = true then 0 else eS l j) i fun j hj => by have := good_N hg j (by omega); split <;> omega
    have hb2 := fl_bd hg i (by omega)
    have hgi := good_N hg i (by omega)
    have e1 : sumN (fun j => if h j = true then fl (eW l) (eL l) (eS l) j else eW l j) (i + 1) = sumN (fun j => if h j = true then fl (eW l) (eL l) (eS l) j else eW l j) i + (if h i = true then fl (eW l) (eL l) (eS l) i else eW l i) := rfl
    have e2 : sumN (fun j => if h j = true then 0 else eS l j) (i + 1) = sumN (fun j => if h j = true then 0 else eS l j) i + (if h i = true then 0 else eS l i) := rfl
    rw [e1, e2] at this
    rw [List.length_map, if_pos (by omega), if_pos (by omega), if_pos (by simp; omega), rdOf_map h _ i (by omega), rd_conv l i (by omega), rd_map _ _ i (by omega)]
    rw [show keptN l h i = if h i = true then fl (eW l) (eL l) (eS l) i else eW l i from rfl]
    generalize sumN (fun j => if h j = true then fl (eW l) (eL l) (eS l) j else eW l j) i = a at *
    generalize sumN (fun j => if h j = true then 0 else eS l j) i = b at *
    generalize fl (eW l) (eL l) (eS l) i = f at *
    rw [w64 (x := (i : Int) + 1) (by omega) (by omega), show ((i : Int) + 1) = ((i + 1 : Nat) : Int) by omega]
    cases hh : h i
    · rw [hh] at this
      simp only [Bool.false_eq_true, if_false] at this ⊢
      rw [w64 (x := a - room + eW l i) (by omega) (by omega), w64 (x := b + eS l i) (by omega) (by omega), show a - room + eW l i = a + eW l i - room by omega]
      exact this
    · rw [hh] at this
      simp only [if_true] at this ⊢
      rw [if_pos (by simp; omega), w64 (x := a - room + f) (by omega) (by omega), show a - room + f = a + f - room by omega]
      rw [Int.add_zero] at this
      exact this
theorem rcm_is (a b c d : Int) (h : ((-9223372036854775808 ≤ a ∧ a ≤ 9223372036854775807) ∧ (-9223372036854775808 ≤ b ∧ b ≤ 9223372036854775807)) ∧ (-9223372036854775808 ≤ c ∧ c ≤ 9223372036854775807) ∧ (-9223372036854775808 ≤ d ∧ d ≤ 9223372036854775807)) :
    ∃ t, tocsinref1_CmpMul.f a b c d = some t ∧ (t < 0 ↔ a * b < c * d) := by
  unfold tocsinref1_CmpMul.f
  rw [if_pos h]
  refine ⟨_, rfl, ?_⟩
  split
  · omega
  · split <;> omega
theorem r2_loop {l : List SpE} (hg : goodL l) (h : Nat → Bool) (hbase : ∀ i, i < l.length → eS l i = 0 → h i = true) (room : Int) (h0 : 0 ≤ room) (h1 : room ≤ 67108864) : ∀ (d k i : Nat) (more : Bool), i ≤ l.length → l.length - i = d → d + 1 < k →
    (more = true ↔ ∃ j, j < i ∧ newB l.length (eW l) (eL l) (eS l) h room j = true) →
    ∃ k' m, k ≤ k' + d + 1 ∧ (m = true ↔ moreP l.length (eW l) (eL l) (eS l) h room) ∧
      tocsinref1_Press.l3 k (l.map conv) room ((List.range l.length).map (keptN l fun j => if j < i then nx l.length (eW l) (eL l) (eS l) h room j else h j)) ((List.range l.length).map h) (mu l.length (eW l) (eL l) (eS l) h room) (so l.length (eS l) h) more ((List.range l.length).map fun j => if j < i then nx l.length (eW l) (eL l) (eS l) h room j else h j) (i : Int)
      = if m = true then tocsinref1_Press.l1 k' (l.map conv) room ((List.range l.length).map (keptN l (nx l.length (eW l) (eL l) (eS l) h room))) ((List.range l.length).map (nx l.length (eW l) (eL l) (eS l) h room))
        else tocsinref1_Press.l4 k' (l.map conv) ((List.range l.length).map (keptN l (nx l.length (eW l) (eL l) (eS l) h room))) ((List.range l.length).map (nx l.length (eW l) (eL l) (eS l) h room)) (mu l.length (eW l) (eL l) (eS l) h room) (so l.length (eS l) h) 0 := by
  intro d
  induction d with
  | zero =>
    intro k i more hi hd hk hm
    obtain ⟨k, rfl⟩ : ∃ m, k = m + 1 := ⟨k - 1, by omega⟩
    refine ⟨k, more, by omega, ?_, ?_⟩
    · obtain rfl : i = l.length := by omega
      exact hm
    · simp only [tocsinref1_Press.l3]
      obtain rfl : i = l.length := by omega
      rw [List.length_map, if_neg (by omega)]
      rw [map_range_congr (f := fun j => if j < l.length then nx l.length (eW l) (eL l) (eS l) h room j else h j) (g := nx l.length (eW l) (eL l) (eS l) h room) _ fun j hj => by rw [if_pos hj]]
      rw [map_range_congr (f := keptN l fun j => if j < l.length then nx l.length (eW l) (eL l) (eS l) h room j else h j) (g := keptN l (nx l.length (eW l) (eL l) (eS l) h room)) _ fun j hj => by unfold keptN; simp only [hj, if_true]]
  | succ d ih =>
    intro k i more hi hd hk
    obtain ⟨k, rfl⟩ : ∃ m, k = m + 1 := ⟨k - 1, by omega⟩
    have a1 : i + 1 ≤ l.length := by omega
    have a2 : l.length - (i + 1) = d := by omega
    have a3 : d + 1 < k := by omega
    have a7 : i < l.length := by omega
    have hlen := hg.1
    have a4 : -9223372036854775808 ≤ (i : Int) + 1 := by omega
    have a5 : (i : Int) + 1 ≤ 9223372036854775807 := by omega
    have a6 : (i : Int) + 1 = ((i + 1 : Nat) : Int) := by omega
    have a8 : (i : Int) < (l.length : Int) := by omega
    have a9 : (0 : Int) ≤ (i : Int) := by omega
    have aL : ∀ f : Nat → Bool, (i : Int) < (((List.range l.length).map f).length : Int) := fun f => by simp; omega
    have aM : ∀ f : Nat → Int, (i : Int) < (((List.range l.length).map f).length : Int) := fun f => by simp; omega
    have hgi := good_N hg i a7
    have hmb := mu_bd hg h room h0 h1
    have hsb := so_bd hg h
    obtain ⟨t, ht1, ht2⟩ := rcm_is (eW l i - eL l i) (so l.length (eS l) h) (mu l.length (eW l) (eL l) (eS l) h room) (eS l i) (by omega)
    have aw : wrap64 (eW l i - eL l i) = eW l i - eL l i := w64 (by omega) (by omega)
    have up : ∀ k' : Nat, k ≤ k' + d + 1 → k + 1 ≤ k' + (d + 1) + 1 := fun k' h => by omega
    intro hm
    simp only [tocsinref1_Press.l3]
    rw [List.length_map, if_pos a8, if_pos a9, if_pos (aL h), rdOf_map _ _ i a7, rd_conv l i a7]
    simp only
    rw [aw, ht1]
    simp only [Option.bind_some]
    rw [w64 (x := (i : Int) + 1) a4 a5, a6]
    have hn : newB l.length (eW l) (eL l) (eS l) h room i = (!h i && decide ((eW l i - eL l i) * so l.length (eS l) h < mu l.length (eW l) (eL l) (eS l) h room * eS l i)) := rfl
    have hx : nx l.length (eW l) (eL l) (eS l) h room i = (h i || newB l.length (eW l) (eL l) (eS l) h room i) := rfl
    have stay0 : newB l.length (eW l) (eL l) (eS l) h room i = false → ∀ j, (if j < i then nx l.length (eW l) (eL l) (eS l) h room j else h j) = (if j < i + 1 then nx l.length (eW l) (eL l) (eS l) h room j else h j) := fun e j => by
      by_cases g : j < i
      · rw [if_pos g, if_pos (Nat.lt_succ_of_lt g)]
      · rw [if_neg g]
        by_cases g' : j = i
        · subst g'; rw [if_pos (Nat.lt_succ_self j), hx, e, Bool.or_false]
        · rw [if_neg (by omega)]
    have mstay : newB l.length (eW l) (eL l) (eS l) h room i = false → (more = true ↔ ∃ j, j < i + 1 ∧ newB l.length (eW l) (eL l) (eS l) h room j = true) := fun e =>
      hm.trans ⟨fun ⟨j, a, b⟩ => ⟨j, Nat.lt_succ_of_lt a, b⟩, fun ⟨j, a, b⟩ => ⟨j, by
        by_cases g : j = i
        · subst g; rw [e] at b; cases b
        · omega, b⟩⟩
    have same : newB l.length (eW l) (eL l) (eS l) h room i = false → _ := fun e => ih k (i + 1) more a1 a2 a3 (mstay e)
    cases hh : h i
    · simp only [Bool.false_eq_true, if_false]
      by_cases g : t < 0
      · have g2 := ht2.1 g
        have e : newB l.length (eW l) (eL l) (eS l) h room i = true := by rw [hn, hh, decide_eq_true g2]; rfl
        have hs : eS l i ≠ 0 := fun e0 => by rw [hbase i a7 e0] at hh; cases hh
        rw [if_pos g, if_pos (aL _), if_pos (aM _)]
        rw [set_map (f := fun j => if j < i then nx l.length (eW l) (eL l) (eS l) h room j else h j) (g := fun j => if j < i + 1 then nx l.length (eW l) (eL l) (eS l) h room j else h j) _ _ _ (fun j hj hne => by
          by_cases g : j < i
          · rw [if_pos g, if_pos (Nat.lt_succ_of_lt g)]
          · rw [if_neg g, if_neg (by omega)]) (by rw [if_pos (Nat.lt_succ_self i), hx, e, Bool.or_true])]
        rw [set_map (f := keptN l fun j => if j < i then nx l.length (eW l) (eL l) (eS l) h room j else h j) (g := keptN l fun j => if j < i + 1 then nx l.length (eW l) (eL l) (eS l) h room j else h j) _ _ _ (fun j hj hne => by
          unfold keptN
          by_cases g : j < i
          · simp only [g, Nat.lt_succ_of_lt g, if_true]
          · simp only [g, if_false, show ¬ j < i + 1 by omega]) (by unfold keptN; simp only [Nat.lt_succ_self, if_true, hx, e, Bool.or_true]; unfold fl; rw [if_neg hs])]
        obtain ⟨k', m, b1, b2, b3⟩ := ih k (i + 1) true a1 a2 a3 ⟨fun _ => ⟨i, Nat.lt_succ_self i, e⟩, fun _ => rfl⟩
        exact ⟨k', m, up k' b1, b2, b3⟩
      · have e : newB l.length (eW l) (eL l) (eS l) h room i = false := by rw [hn, decide_eq_false (fun g' => g (ht2.2 g')), Bool.and_false]
        rw [if_neg g]
        obtain ⟨k', m, b1, b2, b3⟩ := ih k (i + 1) more a1 a2 a3 (mstay e)
        refine ⟨k', m, up k' b1, b2, ?_⟩
        rw [show (fun j => if j < i then nx l.length (eW l) (eL l) (eS l) h room j else h j) = (fun j => if j < i + 1 then nx l.length (eW l) (eL l) (eS l) h room j else h j) from funext (stay0 e)]
        exact b3
    · simp only [if_true]
      have e : newB l.length (eW l) (eL l) (eS l) h room i = false := by rw [hn, hh]; rfl
      obtain ⟨k', m, b1, b2, b3⟩ := ih k (i + 1) more a1 a2 a3 (mstay e)
      refine ⟨k', m, up k' b1, b2, ?_⟩
      rw [show (fun j => if j < i then nx l.length (eW l) (eL l) (eS l) h room j else h j) = (fun j => if j < i + 1 then nx l.length (eW l) (eL l) (eS l) h room j else h j) from funext (stay0 e)]
      exact b3
theorem rUp_is (k : Nat) {a b c : Int} (ha : -9223372036854775808 ≤ a ∧ a ≤ 9223372036854775807) (hb : -9223372036854775808 ≤ b ∧ b ≤ 9223372036854775807) (hc : 0 < c) (hc2 : c ≤ 9223372036854775807) (h0 : 0 ≤ upd (a * b) c) (h1 : upd (a * b) c ≤ 67108864) (hk : 66 ≤ k) :
    tocsinref1_Up.f k a b c = some (upd (a * b) c, true) := by
  unfold tocsinref1_Up.f
  rw [rpart_is k a b c true ha hb hc2 hk, if_pos rfl]
  simp only [Option.bind_some]
  have e : upI a b c = (upd (a * b) c, true) := by
    unfold upI
    rw [if_neg (by omega)]
    show held64 (upd (a * b) c) = _
    unfold held64
    rw [if_pos (by unfold fits; omega)]
  rw [e]
theorem rout_loop {l : List SpE} (hg : goodL l) (h : Nat → Bool) (room : Int) (h0 : 0 ≤ room) (h1 : room ≤ 67108864) (hr : sumN (fl (eW l) (eL l) (eS l)) l.length ≤ room) (hF : FinN l.length (eW l) (eL l) (eS l) h room) : ∀ (d k i : Nat), i ≤ l.length → l.length - i = d → d + 70 < k →
    tocsinref1_Press.l4 k (l.map conv) ((List.range l.length).map fun j => if j < i then outN l.length (eW l) (eL l) (eS l) h room j else keptN l h j) ((List.range l.length).map h) (mu l.length (eW l) (eL l) (eS l) h room) (so l.length (eS l) h) (i : Int)
      = some ((List.range l.length).map (outN l.length (eW l) (eL l) (eS l) h room), 0) := by
  intro d
  induction d with
  | zero =>
    intro k i hi hd hk
    obtain ⟨k, rfl⟩ : ∃ m, k = m + 1 := ⟨k - 1, by omega⟩
    simp only [tocsinref1_Press.l4]
    obtain rfl : i = l.length := by omega
    rw [List.length_map, if_neg (by omega)]
    congr 2
    exact map_range_congr _ fun j hj => by rw [if_pos hj]
  | succ d ih =>
    intro k i hi hd hk
    obtain ⟨k, rfl⟩ : ∃ m, k = m + 1 := ⟨k - 1, by omega⟩
    simp only [tocsinref1_Press.l4]
    have hlen := hg.1
    have hn := ih k (i + 1) (by omega) (by omega) (by omega)
    rw [List.length_map, if_pos (by omega), if_pos (by omega), if_pos (by simp; omega), rdOf_map h _ i (by omega), rd_conv l i (by omega)]
    simp only
    rw [w64 (x := (i : Int) + 1) (by omega) (by omega), show ((i : Int) + 1) = ((i + 1 : Nat) : Int) by omega]
    have hgi := good_N hg i (by omega)
    have hm := mu_bd hg h room h0 h1
    have hs := so_bd hg h
    have hT := so_pos (good_N hg) hr hF.toInvN
    cases hh : h i
    · simp only [Bool.false_eq_true, if_false]
      have hu := up_range (good_N hg) hr hF i (by omega) hh
      rw [rUp_is k (by omega) (by omega) hT (by omega) hu.1 (by omega) (by omega)]
      simp only [Option.bind_some]
      rw [if_pos (by simp; omega), set_map (g := fun j => if j < i + 1 then outN l.length (eW l) (eL l) (eS l) h room j else keptN l h j) _ _ _ _ (fun j hj hne => by
        by_cases g : j < i
        · rw [if_pos g, if_pos (by omega)]
        · rw [if_neg g, if_neg (by omega)]) (by rw [if_pos (by omega)]; unfold outN; rw [hh]; simp only [Bool.false_eq_true, if_false]; rw [w64 (by omega) (by omega)])]
      exact hn
    · simp only [if_true]
      rw [map_range_congr (g := fun j => if j < i + 1 then outN l.length (eW l) (eL l) (eS l) h room j else keptN l h j) _ fun j hj => by
        by_cases g : j < i
        · rw [if_pos g, if_pos (by omega)]
        · rw [if_neg g]
          by_cases g' : j = i
          · subst g'; rw [if_pos (by omega)]; unfold keptN outN; rw [hh]; rfl
          · rw [if_neg (by omega)]]
      exact hn
theorem rround {l : List SpE} (hg : goodL l) (h : Nat → Bool) (hbase : ∀ i, i < l.length → eS l i = 0 → h i = true) (room : Int) (h0 : 0 ≤ room) (h1 : room ≤ 67108864) (hso : so l.length (eS l) h ≠ 0) (k : Nat) (hk : 100 ≤ k) :
    ∃ k' m, k ≤ k' + 45 ∧ (m = true ↔ moreP l.length (eW l) (eL l) (eS l) h room) ∧
      tocsinref1_Press.l1 k (l.map conv) room ((List.range l.length).map (keptN l h)) ((List.range l.length).map h)
      = if m = true then tocsinref1_Press.l1 k' (l.map conv) room ((List.range l.length).map (keptN l (nx l.length (eW l) (eL l) (eS l) h room))) ((List.range l.length).map (nx l.length (eW l) (eL l) (eS l) h room))
        else tocsinref1_Press.l4 k' (l.map conv) ((List.range l.length).map (keptN l (nx l.length (eW l) (eL l) (eS l) h room))) ((List.range l.length).map (nx l.length (eW l) (eL l) (eS l) h room)) (mu l.length (eW l) (eL l) (eS l) h room) (so l.length (eS l) h) 0 := by
  obtain ⟨k, rfl⟩ : ∃ m, k = m + 1 := ⟨k - 1, by omega⟩
  have hlen := hg.1
  obtain ⟨k1, a1, a2⟩ := r1_loop hg h room h0 h1 hso l.length k 0 (by omega) (by omega) (by omega)
  obtain ⟨k2, m, b1, b2, b3⟩ := r2_loop hg h hbase room h0 h1 l.length k1 0 false (by omega) (by omega) (by omega) ⟨fun h => by simp at h, fun ⟨j, a, _⟩ => absurd a (Nat.not_lt_zero j)⟩
  have e0 : (fun j => if j < 0 then nx l.length (eW l) (eL l) (eS l) h room j else h j) = h := funext fun j => if_neg (Nat.not_lt_zero j)
  rw [e0] at b3
  refine ⟨k2, m, by omega, b2, ?_⟩
  simp only [tocsinref1_Press.l1]
  rw [w64 (x := -room) (by omega) (by omega)]
  simp only [sumN] at a2
  rw [show (0 : Int) - room = -room by omega] at a2
  exact a2.trans b3
theorem rrun {l : List SpE} (hg : goodL l) (room : Int) (h0 : 0 ≤ room) (h1 : room ≤ 67108864) (hr : sumN (fl (eW l) (eL l) (eS l)) l.length ≤ room) : ∀ (d k : Nat) (h : Nat → Bool), (l.length : Int) - cnt l.length h ≤ d → d * 50 + 300 < k → InvN l.length (eW l) (eL l) (eS l) h room → leastP l.length (eW l) (eL l) (eS l) h room →
    ∃ hE, EndN l.length (eW l) (eL l) (eS l) hE room ∧
      tocsinref1_Press.l1 k (l.map conv) room ((List.range l.length).map (keptN l h)) ((List.range l.length).map h) = some ((List.range l.length).map (outN l.length (eW l) (eL l) (eS l) hE room), 0) := by
  have hlen := hg.1
  have stop : ∀ (k : Nat) (h : Nat → Bool), 300 < k → InvN l.length (eW l) (eL l) (eS l) h room → leastP l.length (eW l) (eL l) (eS l) h room → ¬ moreP l.length (eW l) (eL l) (eS l) h room →
      ∃ hE, EndN l.length (eW l) (eL l) (eS l) hE room ∧
      tocsinref1_Press.l1 k (l.map conv) room ((List.range l.length).map (keptN l h)) ((List.range l.length).map h) = some ((List.range l.length).map (outN l.length (eW l) (eL l) (eS l) hE room), 0) := by
    intro k h hk hI hl hm
    have hF := fin_of hI hm
    have hT := so_pos (good_N hg) hr hI
    obtain ⟨k', m, a1, a2, a3⟩ := rround hg h hI.base room h0 h1 (by omega) k (by omega)
    refine ⟨h, ⟨hF, hl⟩, ?_⟩
    rw [a3, if_neg (fun e => hm (a2.1 e))]
    have e2 : ∀ i, i < l.length → nx l.length (eW l) (eL l) (eS l) h room i = h i := fun i hi => by
      unfold nx
      cases g : newB l.length (eW l) (eL l) (eS l) h room i
      · rw [Bool.or_false]
      · exact absurd ⟨i, hi, g⟩ hm
    rw [map_range_congr (f := nx l.length (eW l) (eL l) (eS l) h room) (g := h) _ e2, map_range_congr (f := keptN l (nx l.length (eW l) (eL l) (eS l) h room)) (g := fun j => if j < 0 then outN l.length (eW l) (eL l) (eS l) h room j else keptN l h j) _ fun i hi => by unfold keptN; simp only [e2 i hi, Nat.not_lt_zero, if_false]]
    exact rout_loop hg h room h0 h1 hr hF l.length k' 0 (by omega) (by omega) (by omega)
  intro d
  induction d with
  | zero =>
    intro k h hc hk hI hl
    refine stop k h (by omega) hI hl ?_
    intro hm
    have := cnt_more hm
    have := cnt_bd l.length (nx l.length (eW l) (eL l) (eS l) h room)
    omega
  | succ d ih =>
    intro k h hc hk hI hl
    by_cases hm : moreP l.length (eW l) (eL l) (eS l) h room
    · have hcm := cnt_more hm
      have hT := so_pos (good_N hg) hr hI
      obtain ⟨k', m, a1, a2, a3⟩ := rround hg h hI.base room h0 h1 (by omega) k (by omega)
      obtain ⟨hE, hE1, hE2⟩ := ih k' (nx l.length (eW l) (eL l) (eS l) h room) (by omega) (by omega) (step_inv (good_N hg) hr hI hm) (least_step (good_N hg) hI.base hl)
      refine ⟨hE, hE1, ?_⟩
      rw [a3, if_pos (a2.2 hm)]
      exact hE2
    · exact stop k h (by omega) hI hl hm
theorem rfirst_loop {l : List SpE} (hg : goodL l) (room : Int) : ∀ (d k i : Nat), i ≤ l.length → l.length - i = d → d + 1 < k →
    ∃ k', k ≤ k' + d + 1 ∧ tocsinref1_Press.l0 k (l.map conv) room ((List.range l.length).map fun j => if j < i then eW l j else 0) ((List.range l.length).map fun j => if j < i then firstH l j else false) (sumN (eW l) i) (i : Int)
      = if sumN (eW l) l.length ≤ room then some ((List.range l.length).map (eW l), 0) else tocsinref1_Press.l1 k' (l.map conv) room ((List.range l.length).map (eW l)) ((List.range l.length).map (firstH l)) := by
  intro d
  induction d with
  | zero =>
    intro k i hi hd hk
    obtain ⟨k, rfl⟩ : ∃ m, k = m + 1 := ⟨k - 1, by omega⟩
    refine ⟨k, by omega, ?_⟩
    simp only [tocsinref1_Press.l0]
    obtain rfl : i = l.length := by omega
    rw [List.length_map, if_neg (by omega), map_range_congr (g := firstH l) _ fun j hj => by rw [if_pos hj], map_range_congr (g := eW l) _ fun j hj => by rw [if_pos hj]]
  | succ d ih =>
    intro k i hi hd hk
    obtain ⟨k, rfl⟩ : ∃ m, k = m + 1 := ⟨k - 1, by omega⟩
    have hlen := hg.1
    obtain ⟨k', h1, h2⟩ := ih k (i + 1) (by omega) (by omega) (by omega)
    refine ⟨k', by omega, ?_⟩
    simp only [tocsinref1_Press.l0]
    have hgi := good_N hg i (by omega)
    have b2 := sumN_bd (f := eW l) i fun j hj => by have := good_N hg j (by omega); omega
    rw [List.length_map, if_pos (by omega), if_pos (by omega), if_pos (by simp; omega), if_pos (by simp; omega), rd_conv l i (by omega)]
    simp only
    rw [w64 (x := (i : Int) + 1) (by omega) (by omega), w64 (x := sumN (eW l) i + eW l i) (by omega) (by omega), show ((i : Int) + 1) = ((i + 1 : Nat) : Int) by omega, ← h2]
    congr 1
    · exact set_map _ _ _ _ _ (fun j hj hne => by
        by_cases g : j < i
        · rw [if_pos g, if_pos (by omega)]
        · rw [if_neg g, if_neg (by omega)]) (by rw [if_pos (by omega)])
    · exact set_map _ _ _ _ _ (fun j hj hne => by
        by_cases g : j < i
        · rw [if_pos g, if_pos (by omega)]
        · rw [if_neg g, if_neg (by omega)]) (by rw [if_pos (by omega)]; rfl)
theorem room_is (r : Int) : tocsinref1_room.f r = some (decide (0 ≤ r ∧ r ≤ 67108864)) := by
  unfold tocsinref1_room.f
  by_cases h : r ≥ 0
  · rw [if_pos h]; congr 1; rw [decide_eq_decide]; omega
  · rw [if_neg h]; congr 1; symm; rw [decide_eq_false_iff_not]; omega
theorem rPress_is (k : Nat) (l : List SpE) (hlen : l.length ≤ 100) (room : Int) (hk : 2000 ≤ k) :
    (¬ (goodL l ∧ 0 ≤ room ∧ room ≤ 67108864) ∧ tocsinref1_Press.f k (l.map conv) room = some ([], 1)) ∨
    ((goodL l ∧ 0 ≤ room ∧ room ≤ 67108864) ∧ room < sumN (fl (eW l) (eL l) (eS l)) l.length ∧ tocsinref1_Press.f k (l.map conv) room = some ([], 9)) ∨
    ((goodL l ∧ 0 ≤ room ∧ room ≤ 67108864) ∧ sumN (fl (eW l) (eL l) (eS l)) l.length ≤ room ∧
      ((sumN (eW l) l.length ≤ room ∧ tocsinref1_Press.f k (l.map conv) room = some ((List.range l.length).map (eW l), 0)) ∨
       (room < sumN (eW l) l.length ∧ ∃ h, EndN l.length (eW l) (eL l) (eS l) h room ∧ tocsinref1_Press.f k (l.map conv) room = some ((List.range l.length).map (outN l.length (eW l) (eL l) (eS l) h room), 0)))) := by
  obtain ⟨k, rfl⟩ : ∃ m, k = m + 1 := ⟨k - 1, by omega⟩
  unfold tocsinref1_Press.f
  rw [rFloor_is (k + 1) l hlen (by omega), room_is]
  simp only [tocsinref1_Press.j0, Option.bind_some]
  by_cases hg : goodL l
  · rw [if_pos hg]
    simp only [if_true]
    by_cases h0 : 0 ≤ room ∧ room ≤ 67108864
    · rw [decide_eq_true h0]
      simp only [Bool.not_true, Bool.false_eq_true, if_false]
      have hl20 := hg.1
      by_cases h2 : sumN (fl (eW l) (eL l) (eS l)) l.length > room
      · right; left; rw [if_pos h2]; exact ⟨⟨hg, h0⟩, by omega, rfl⟩
      · right; right
        refine ⟨⟨hg, h0⟩, by omega, ?_⟩
        rw [if_neg h2, List.length_map, if_pos (by omega), if_pos (by omega), if_pos (by omega)]
        obtain ⟨k', hk', hf⟩ := rfirst_loop hg room l.length k 0 (by omega) (by omega) (by omega)
        have e1 : List.replicate ((l.length : Int)).toNat false = (List.range l.length).map fun j => if j < 0 then firstH l j else false := by
          rw [show ((l.length : Int)).toNat = l.length by omega]
          exact List.ext_getElem (by simp) fun i _ _ => by simp
        have e2 : List.replicate ((l.length : Int)).toNat (0 : Int) = (List.range l.length).map fun j => if j < 0 then eW l j else 0 := by
          rw [show ((l.length : Int)).toNat = l.length by omega]
          exact List.ext_getElem (by simp) fun i _ _ => by simp
        rw [e1, e2]
        rw [show ((0 : Nat) : Int) = 0 from rfl, show sumN (eW l) 0 = 0 from rfl] at hf
        rw [hf]
        by_cases h3 : sumN (eW l) l.length ≤ room
        · left; rw [if_pos h3]; exact ⟨h3, rfl⟩
        · right
          rw [if_neg h3]
          refine ⟨by omega, ?_⟩
          have := rrun hg room h0.1 h0.2 (by omega) 20 k' (firstH l) (by have := cnt_bd l.length (firstH l); omega) (by omega) (first_inv (by rw [first_mu]; omega)) (first_least l room)
          rw [map_range_congr (f := keptN l (firstH l)) (g := eW l) _ fun i hi => by
            unfold keptN firstH fl
            by_cases e : eS l i = 0
            · simp [e]
            · simp [e]] at this
          exact this
    · left; rw [decide_eq_false h0]; exact ⟨fun g => h0 g.2, rfl⟩
  · left; rw [if_neg hg]; simp only [Bool.false_eq_true, if_false, if_true]; exact ⟨fun g => hg g.1, trivial⟩
theorem end_unique {n : Nat} {W L S : Nat → Int} {h h' : Nat → Bool} {room : Int} (hr : sumN (fl W L S) n ≤ room) (a : EndN n W L S h room) (b : EndN n W L S h' room) : ∀ i, i < n → outN n W L S h room i = outN n W L S h' room i := by
  have e : ∀ i, i < n → h i = h' i := fun i hi => by
    have h1 := a.least h' room (Int.le_refl _) hr b.toFinN i hi
    have h2 := b.least h room (Int.le_refl _) hr a.toFinN i hi
    cases g : h i <;> cases g' : h' i
    · rfl
    · rw [g, g'] at h2; exact absurd (h2 rfl) (by decide)
    · rw [g, g'] at h1; exact absurd (h1 rfl) (by decide)
    · rfl
  have e1 : mu n W L S h room = mu n W L S h' room := by
    unfold mu; rw [sumN_congr n fun i hi => by rw [e i hi]]
  have e2 : so n S h = so n S h' := by
    unfold so; exact sumN_congr n fun i hi => by rw [e i hi]
  intro i hi
  unfold outN
  rw [e i hi, e1, e2]
/-- Both press alike. -/
theorem press_both (k : Nat) (l : List SpE) (hlen : l.length ≤ 100) (room : Int) (hk : 2000 ≤ k) : ∃ x e, elastic_Press.f k l room = some (x, e) ∧ tocsinref1_Press.f k (l.map conv) room = some (x, e) ∧ x.length ≤ 100 := by
  rcases Press_is k l room (by omega) with ⟨h, e⟩ | ⟨h, h2, e⟩ | ⟨h, h2, hh⟩ <;> rcases rPress_is k l hlen room hk with ⟨g, e'⟩ | ⟨g, g2, e'⟩ | ⟨g, g2, gg⟩
  · exact ⟨_, _, e, e', by simp⟩
  · exact absurd g h
  · exact absurd g h
  · exact absurd h g
  · exact ⟨_, _, e, e', by simp⟩
  · omega
  · exact absurd h g
  · omega
  · rcases hh with ⟨h3, e⟩ | ⟨h3, hE, h4, e⟩ <;> rcases gg with ⟨g3, e'⟩ | ⟨g3, gE, g4, e'⟩
    · exact ⟨_, _, e, e', by simp; omega⟩
    · omega
    · omega
    · refine ⟨_, _, e, ?_, by simp; omega⟩
      rw [e', map_range_congr _ fun i hi => end_unique g2 g4 h4 i hi]

/-! A slice of structs of three whole numbers that came in: the list that it reads as. -/
section
open Go.Deep Go.ChangeShapes Go.WideShapes
variable {H : Type} {enc : TypeId × Value → H} {w : World} {base : Nat} {spare : Nat → Bool} {held : Bool}
theorem st3_cells {P : Program} {k : IntKind} {e ti : TypeId} {f0 f1 f2 : Field} (he : P.underlying e = some (.struct #[f0, f1, f2])) (hone : oneCellFields P #[f0, f1, f2] = true) (hC : P.cellsOf e = 3) (hi : P.underlying ti = some (.int k))
    (t0 : f0.type = ti) (t1 : f1.type = ti) (t2 : f2.type = ti) {fuel : Nat} {cs : List Value} {x : DataW H × List MemPlace} (h : DataW.trod enc P w base spare held fuel e cs = some x) :
    ∃ a b c : Int, cs = [.int k a, .int k b, .int k c] ∧ (Lit.int k a).wf = true ∧ (Lit.int k b).wf = true ∧ (Lit.int k c).wf = true := by
  obtain ⟨y0, y1, y2, n, _, hl, h0, h1, h2⟩ := trod_struct3 he h
  rw [hC] at hl
  match cs, hl with
  | [u, v, z], _ =>
    obtain ⟨o0, k0⟩ := hone_of hone 0 f0 rfl
    obtain ⟨o1, k1⟩ := hone_of hone 1 f1 rfl
    obtain ⟨o2, k2⟩ := hone_of hone 2 f2 rfl
    rw [o0, k0, t0] at h0; rw [o1, k1, t1] at h1; rw [o2, k2, t2] at h2
    obtain ⟨a, ea, _, wa⟩ := DataW.trod_int hi h0
    obtain ⟨b, eb, _, wb⟩ := DataW.trod_int hi h1
    obtain ⟨c, ec, _, wc⟩ := DataW.trod_int hi h2
    simp at ea eb ec
    subst ea eb ec
    exact ⟨a, b, c, rfl, wa, wb, wc⟩
theorem st3_row {P : Program} {k : IntKind} {t e ti : TypeId} {f0 f1 f2 : Field} (ht : P.underlying t = some (.slice e)) (he : P.underlying e = some (.struct #[f0, f1, f2])) (hone : oneCellFields P #[f0, f1, f2] = true) (hC : P.cellsOf e = 3) (hi : P.underlying ti = some (.int k))
    (t0 : f0.type = ti) (t1 : f1.type = ti) (t2 : f2.type = ti) {α : Type} (d : Kd α) (hd : d.sz = 3) (mk : Int → Int → Int → α) (hk : ∀ w a b c, d.K w (mk a b c) [.int k a, .int k b, .int k c])
    {fuel : Nat} {A : Option Addr} {len cap : Nat} {x : DataW H × List MemPlace} (h : DataW.trod enc P w base spare held fuel t [.slice A len cap] = some x) :
    ∃ l : List α, len = l.length ∧ Kd.C d w A l.length l ∧ l.length ≤ cap ∧ l.length ≤ maxLen ∧ ∀ y ∈ l, ∃ a b c, y = mk a b c ∧ (Lit.int k a).wf = true ∧ (Lit.int k b).wf = true ∧ (Lit.int k c).wf = true := by
  rcases open_slice ht h with ⟨h0, _⟩ | ⟨a, len', cap', m, n, D, Pl, hcs, hb, hl, hm, hmm, hx, hi'⟩
  · simp at h0
    obtain ⟨rfl, rfl, rfl⟩ := h0
    exact ⟨[], rfl, ⟨rfl, by simp, fun h => absurd h (by simp)⟩, by simp, by simp, by simp⟩
  · simp at hcs
    obtain ⟨rfl, rfl, rfl⟩ := hcs
    have hmlen : len ≤ m := by rw [hmm]; split <;> omega
    have hall : ∀ i, ∃ y : Int × Int × Int, i < len → (∀ j u, ([.int k y.1, .int k y.2.1, .int k y.2.2] : List Value)[j]? = some u → w.cell? (a.add (i * 3 + j)) = some u) ∧ (Lit.int k y.1).wf = true ∧ (Lit.int k y.2.1).wf = true ∧ (Lit.int k y.2.2).wf = true := by
      intro i
      by_cases hlt : i < len
      · obtain ⟨cs', hc, htr⟩ := hi' i (by omega)
        obtain ⟨p, q, r, rfl, wp, wq, wr⟩ := st3_cells he hone hC hi t0 t1 t2 htr
        rw [hC] at hc
        obtain ⟨_, _, hat⟩ := World.cells?_some hc
        refine ⟨(p, q, r), fun _ => ⟨fun j u hj => ?_, wp, wq, wr⟩⟩
        have hjl : j < 3 := by
          have := (List.getElem?_eq_some_iff.1 hj).1
          simpa using this
        have := hat j hjl
        rw [Go.Deep.add_add] at this
        rw [this]; exact hj
      · exact ⟨(0, 0, 0), fun h => absurd h hlt⟩
    have hY := fun i => Classical.choose_spec (hall i)
    generalize (fun i => Classical.choose (hall i)) = Y at hY
    refine ⟨(List.range len).map fun i => mk (Classical.choose (hall i)).1 (Classical.choose (hall i)).2.1 (Classical.choose (hall i)).2.2, by simp, ?_, by simp; omega, by simp; exact Nat.le_trans hl hm, ?_⟩
    · refine ⟨rfl, by simp; exact Nat.le_trans (Nat.le_trans hl hm) (by unfold maxLen; omega), fun _ => ⟨a, rfl, fun j p hj => ?_⟩⟩
      rw [List.getElem?_map] at hj
      have hjl : j < len := by
        by_cases g : j < len
        · exact g
        · rw [List.getElem?_eq_none (by simp; omega)] at hj; simp at hj
      rw [List.getElem?_eq_getElem (by simpa using hjl)] at hj
      simp at hj
      subst hj
      refine ⟨_, by rw [hd]; rfl, hk w _ _ _, fun i u hu => ?_⟩
      rw [hd]
      exact (Classical.choose_spec (hall j) hjl).1 i u hu
    · intro y hy
      obtain ⟨i, hi2, rfl⟩ := List.mem_map.1 hy
      have hil : i < len := by simpa using hi2
      have := (Classical.choose_spec (hall i) hil).2
      exact ⟨_, _, _, rfl, this⟩
end

theorem shares_loop (x : List Int) (hx : x.length ≤ 100) : ∀ (d k i : Nat), i ≤ x.length → x.length - i = d → d + 1 < k → tocsinlaw13_shares.l0 k x x (i : Int) = some true := by
  intro d
  induction d with
  | zero =>
    intro k i hi hd hk
    obtain ⟨k, rfl⟩ : ∃ m, k = m + 1 := ⟨k - 1, by omega⟩
    simp only [tocsinlaw13_shares.l0]
    rw [if_neg (by omega)]
  | succ d ih =>
    intro k i hi hd hk
    obtain ⟨k, rfl⟩ : ∃ m, k = m + 1 := ⟨k - 1, by omega⟩
    simp only [tocsinlaw13_shares.l0]
    rw [if_pos (by omega), if_pos (by omega), if_pos (by omega), if_pos trivial, w64 (x := (i : Int) + 1) (by omega) (by omega), show ((i : Int) + 1) = ((i + 1 : Nat) : Int) by omega]
    exact ih k (i + 1) (by omega) (by omega) (by omega)
theorem shares_self (k : Nat) (x : List Int) (hx : x.length ≤ 100) (hk : 110 ≤ k) : tocsinlaw13_shares.f k x x = some true := by
  unfold tocsinlaw13_shares.f
  rw [if_pos rfl]
  exact shares_loop x hx x.length k 0 (by omega) (by omega) (by omega)
theorem law (l : List SpE) (room : Int) (x : List Int) (hw : ∀ n ∈ x, -9223372036854775808 ≤ n ∧ n ≤ 9223372036854775807) : tocsinlaw13_ElasticSays.f 3000 l room x = some true := by
  unfold tocsinlaw13_ElasticSays.f
  rw [awake_is _ (by omega)]
  simp only [Option.bind_some, if_true, tocsinlaw13_ElasticSays.j0]
  refine g_if fun hlen => ?_
  by_cases h2 : (x.length : Int) > 25
  · rw [decide_eq_true h2]; rfl
  rw [decide_eq_false h2]
  simp only [Bool.false_eq_true, if_false]
  obtain ⟨p, e, hp1, hp2, hp3⟩ := press_both 2999 l (by omega) room (by omega)
  obtain ⟨c, hc1, hc2⟩ := cost_both 2999 l (by omega) x hw (by omega)
  rw [hp1, own_is _ l (by omega) (by omega)]
  simp only [Option.bind_some]
  rw [hp2, Floor_is _ l (by omega), rFloor_is _ l (by omega) (by omega), hc1, hc2]
  simp only [Option.bind_some]
  rw [shares_self _ p hp3 (by omega)]
  simp
def IsRow (k : IntKind) (w : World) (a : Option Addr) (len cap : Nat) (zs : List Int) : Prop :=
  (a = none ∧ len = 0 ∧ cap = 0 ∧ zs = []) ∨
  ∃ x, a = some x ∧ len ≤ cap ∧ cap ≤ maxLen ∧ zs.length = cap ∧ (∀ i, i < zs.length → w.cell? (x.add i) = some (.int k (zs.getD i 0))) ∧ ∀ n ∈ zs, (Lit.int k n).wf = true
theorem own : ownKnob Try.prog.godebug = none := by kernel_rfl
theorem Try.laidOut : laidOutB Try.prog = true := by kernel_rfl
open Go.ChangeShapes Go.WideShapes Go.ChangeAt Go.RowKit
open Go.ChangeMaps (open_string shut_string)
set_option maxRecDepth 100000 in
theorem lifted (os : Os) (started : os.Started) (H : Type) (enc : TypeId × Value → H) :
    ReturnsInHanded {} Try.checked os 8 .any (Rows.elasticSaysSpec.pre6 enc Try.prog Try.f8 Rows.elasticSaysRow.domain false) (Rows.elasticSaysSpec.post enc Try.prog Try.f8 false true false false) := by
  refine returnsInHanded_of_change_sized (C := Try.checked) own started (by kernel_rfl) Try.func8
    (ChangeSpec.witness6 (enc := enc) (C := Try.checked) false ⟨#[], #[.slice none 0 0, .int .i64 0, .slice none 0 0], []⟩ 8 (by kernel_rfl) (by kernel_rfl) (by kernel_rfl) (by kernel_rfl)) ?_
  intro W base args ds gs before hval0 hW hcnd hsz0 _
  have hsz : (DataW.weightsEach Try.prog (Try.f8.params.toList ++ Rows.elasticSaysSpec.plain.varTypes Try.prog) (ds ++ gs)).all (· ≤ reachBytes) = true := hsz0
  have hval : ∀ (j : Nat) t v, Try.f8.params[j]? = some t → args[j]? = some v → Value.okWide Try.prog W .any base t v := hval0
  have hW' := hW
  obtain ⟨p, q, hA0, hV, rfl, hfz, hnd⟩ := hW
  have hA : DataW.TrodAll enc Try.prog W 0 (fun _ => true) true Try.f8.params.toList args.toList ds p := hA0
  rw [Try.params8] at hA hval hsz
  obtain ⟨v0, vs0, d0, ds0, p0, q0, hargs, rfl, rfl, h0, r0⟩ := trodAll_cons hA
  obtain ⟨v1, vs1, d1, ds1, p1, q1, rfl, rfl, rfl, h1, r1⟩ := trodAll_cons r0
  obtain ⟨v2, vs2, d2, ds2, p2, q2, rfl, rfl, rfl, h2, r2⟩ := trodAll_cons r1
  obtain ⟨rfl, rfl, rfl⟩ := trodAll_nil r2
  obtain rfl : args = #[v0, v1, v2] := by cases args; simp_all
  obtain ⟨rfl, rfl⟩ := trodVars_none hV
  have k0 := h0
  have k1 := h1
  have k2 := h2
  have lt0 : ∀ x ∈ p0, x.block < W.heap.size := by obtain ⟨m, hm⟩ := k0; exact DataW.trod_lt m _ _ _ hm
  have lt1 : ∀ x ∈ p1, x.block < W.heap.size := by obtain ⟨m, hm⟩ := k1; exact DataW.trod_lt m _ _ _ hm
  have lt2 : ∀ x ∈ p2, x.block < W.heap.size := by obtain ⟨m, hm⟩ := k2; exact DataW.trod_lt m _ _ _ hm
  obtain ⟨a0, len0, cap0, rfl⟩ := okWide_slice Try.underlying22 (hval 0 22 v0 rfl rfl)
  obtain ⟨fuel0, hf0⟩ := h0
  obtain ⟨l0, rfl, hr0, hc0, hm0, hw0⟩ := st3_row Try.underlying22 Try.underlying29 (by kernel_rfl) (by kernel_rfl) Try.underlying2 rfl rfl rfl k29 rfl (fun a b c => (⟨a, b, c⟩ : S29)) (fun w a b c => k29_mk w ⟨a, b, c⟩) (by simpa [Value.cells] using hf0)
  obtain ⟨a1, rfl, rfl, rfl, w1⟩ := open_int Try.underlying2 (hval 1 2 v1 rfl rfl) h1
  obtain ⟨a2, len2, cap2, rfl⟩ := okWide_slice Try.underlying24 (hval 2 24 v2 rfl rfl)
  obtain ⟨z2, w2⟩ : ∃ zs, IsRow .i64 W a2 len2 cap2 zs := by
    obtain ⟨fuel, hf⟩ := h2
    rcases open_ints Try.underlying24 Try.underlying2 (by kernel_rfl) hf with ⟨hcs, _⟩ | ⟨x, l, c, zs, hcs, _, hl, hm, hz, _, hcell, hwz⟩
    · simp [Value.cells] at hcs
      obtain ⟨rfl, rfl, rfl⟩ := hcs
      exact ⟨[], .inl ⟨rfl, rfl, rfl, rfl⟩⟩
    · simp [Value.cells] at hcs
      obtain ⟨rfl, rfl, rfl⟩ := hcs
      exact ⟨zs, .inr ⟨_, rfl, hl, hm, by simpa using hz, hcell, hwz⟩⟩
  have y2 : len2 * 8 ≤ 140737488351232 := sized_ints hsz (j := 2) (t := 24) rfl rfl Try.underlying24 Try.underlying2 (by kernel_rfl) (by kernel_rfl) h2
  obtain ⟨l2, rfl, hr2, hm2, hw2, hc2⟩ := ReadsInt.ofRowC w2
  clear hA0 hval0 hsz0 hsz
  refine (tocsinlaw13_ElasticSays.calls 3000 a0 cap0 l0 a1 a2 cap2 l2 true W hr0 hc0 (Kd.C_of_reads (d := (0 : Int)) (h1 := fun _ => rfl) hr2) hc2 (law l0 a1 l2 fun n hn => wf_i64 (hw2 n hn)) rfl).mono fun e W' ⟨he, bel⟩ => ?_
  subst he
  exact ⟨_, rfl, _, _, _, _, _, [], hW', trodAll_mk1 (shut_bool Try.underlying4 _), (trodAll_cons_mk (Below.trod Try.laidOut (by kernel_rfl) (of_decide_eq_true (by kernel_rfl)) k0 bel lt0) (trodAll_cons_mk (Below.trod Try.laidOut (by kernel_rfl) (of_decide_eq_true (by kernel_rfl)) k1 bel lt1) (trodAll_cons_mk (Below.trod Try.laidOut (by kernel_rfl) (of_decide_eq_true (by kernel_rfl)) k2 bel lt2) trodAll_mk0))), rfl, bel.frame _, fun h => by cases h⟩
theorem over : Rows.elasticSaysRow.holds Try.pinned (OpenSpec.ofChange Rows.elasticSaysSpec) :=
  OpenClaim.holds_of_wide 8 Try.f8 rfl rfl rfl rfl rfl rfl rfl ⟨rfl, rfl, rfl, rfl, rfl⟩ rfl rfl rfl rfl rfl (by kernel_rfl) Try.func8 (by kernel_rfl)
    (of_decide_eq_true (by kernel_rfl)) (by unfold Func.isWrapper; first | (rw [if_pos (by decide +kernel)]; kernel_rfl) | (rw [if_neg (by decide +kernel)]; exact ⟨rfl, rfl⟩))
    (fun os started H enc _ => lifted os started H enc)
end Go.Proofs.Ytdpeedkmgegmnaa.Pure
namespace Go.Proofs.Ytdpeedkmgegmnaa
/-- The row, under a short name, for the claim. -/
theorem elasticSays_holds : Rows.ElasticSaysSaid := Pure.over
end Go.Proofs.Ytdpeedkmgegmnaa
#print axioms Go.Proofs.Ytdpeedkmgegmnaa.elasticSays_holds
namespace Go.Proofs.Ytdpeedkmgegmnaa.Pure

end Go.Proofs.Ytdpeedkmgegmnaa.Pure
