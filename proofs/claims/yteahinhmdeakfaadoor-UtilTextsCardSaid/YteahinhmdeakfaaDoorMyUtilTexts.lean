/- Texts rise with their shares: of two shares from 0 on the lesser one's text is not longer, or, as long, not above; each has a point ahead of its last three digits: for every two shares. -/
import Derived.Test.YteahinhmdeakfaaDoorPUtx5
import Derived.Test.YteahinhmdeakfaaDoorPUtTexts
import Derived.Test.YteahinhmdeakfaaDoorCards
import Derived.Test.YteahinhmdeakfaaDoorTie
import Derived.LaidMore
import Derived.Stop.Joined
import Derived.SevenTiedAt
import Derived.Lib.LaidTab
import Derived.Test.YteahinhmdeakfaaDoorRows
import Derived.WalkKit
import Derived.ProofKit
import Derived.OpenShut
import Derived.ShutString
import Derived.ChangeOld
import Derived.Below
import Derived.SizedLaws
import Derived.Carry
import Derived.Lib.SmallJoins
import Derived.Test.YteahinhmdeakfaaDoorWSized
namespace Go.Proofs.YteahinhmdeakfaaDoor.Pure
open Go.RowKit Go.Proofs.YteahinhmdeakfaaDoor.PUt Go.Proofs.YteahinhmdeakfaaDoorW.PrintWords Go.Proofs.YteahinhmdeakfaaDoorW.PrintLast Go.Proofs.YteahinhmdeakfaaDoorW.PrintMore 
set_option linter.unusedVariables false
set_option linter.unusedSimpArgs false

theorem work_is (n : Int) : util_work.f n = some (decide (1 ≤ n ∧ n ≤ 1000)) := by
  unfold util_work.f
  repeat' split
  all_goals (congr 1; first | rfl | (rw [decide_eq_decide]; omega) | (symm; rw [decide_eq_true_iff]; omega) | (symm; rw [decide_eq_false_iff_not]; omega))
def upd (x s : Int) : Int := -(-x / s)
theorem upd_bd {s : Int} (x : Int) (hs : 0 < s) : x ≤ upd x s * s ∧ upd x s * s < x + s := by
  unfold upd
  have h1 := Int.ediv_mul_le (-x) (show s ≠ 0 by omega)
  have h2 := Int.lt_ediv_add_one_mul_self (-x) hs
  rw [Int.add_mul, Int.one_mul] at h2
  rw [Int.neg_mul]
  omega
/-- The share of a need: rounded up. -/
def shareOf (n p : Int) : Int × Bool := if (1 ≤ n ∧ n ≤ 1000) ∧ 1 ≤ p ∧ p ≤ 10000 then (upd (n * 1048576) p, true) else (0, false)
theorem up_pos {x c : Int} (h0 : 1 ≤ x) (hc : 0 < c) : 1 ≤ upd x c ∧ upd x c ≤ x := by
  have ⟨b1, b2⟩ := upd_bd x hc
  constructor
  · have : 0 * c < upd x c * c := by omega
    have := Int.lt_of_mul_lt_mul_right this (by omega)
    omega
  · have h : (upd x c - 1) * c < x := by rw [Int.sub_mul, Int.one_mul]; omega
    by_cases g : upd x c ≤ 1
    · omega
    · have : (upd x c - 1) * 1 ≤ (upd x c - 1) * c := Int.mul_le_mul_of_nonneg_left (by omega) (by omega)
      omega
theorem up_is {n c : Int} (h0 : 1 ≤ n) (h1 : n ≤ 1000) (hc : 0 < c) (hc2 : c ≤ 9223372036854775807) : num_Up.f n 1048576 c = some (upd (n * 1048576) c, true) := by
  unfold num_Up.f
  rw [if_pos (by omega)]
  unfold upI
  rw [if_neg (by omega)]
  show some (held64 (upd (n * 1048576) c)) = _
  have := up_pos (x := n * 1048576) (c := c) (by omega) hc
  unfold held64
  rw [if_pos (by unfold fits; omega)]
theorem of_is (n p : Int) (hp : -9223372036854775808 ≤ p ∧ p ≤ 9223372036854775807) : util_Of.f n p = some (shareOf n p) := by
  unfold util_Of.f shareOf
  rw [work_is]
  simp only [Option.bind_some]
  by_cases h : 1 ≤ n ∧ n ≤ 1000
  · rw [decide_eq_true h]
    simp only [if_true]
    by_cases h1 : p < 1
    · rw [if_pos h1, if_neg (by omega)]
    · rw [if_neg h1]
      by_cases h2 : p > 10000
      · rw [if_pos h2, if_neg (by omega)]
      · rw [if_neg h2, if_pos (by omega), up_is h.1 h.2 (by omega) (by omega)]; rfl
  · rw [decide_eq_false h]
    simp only [Bool.false_eq_true, if_false]
    rw [if_neg (by omega)]
/-- The period of a share. -/
def periodOf (n s : Int) : Int × Bool := if ((1 ≤ n ∧ n ≤ 1000) ∧ 1 ≤ s) ∧ upd (n * 1048576) s ≤ 10000 then (upd (n * 1048576) s, true) else (0, false)
theorem period_is (k : Nat) (n s : Int) (hs : -9223372036854775808 ≤ s ∧ s ≤ 9223372036854775807) (hk : 1 ≤ k) : util_Period.f k n s = some (periodOf n s) := by
  obtain ⟨k, rfl⟩ : ∃ m, k = m + 1 := ⟨k - 1, by omega⟩
  unfold util_Period.f periodOf
  rw [work_is]
  simp only [Option.bind_some, util_Period.j0]
  by_cases h : 1 ≤ n ∧ n ≤ 1000
  · rw [decide_eq_true h]
    simp only [if_true]
    by_cases h1 : s < 1
    · rw [decide_eq_true h1]
      simp only [if_true]
      rw [if_neg (by omega)]
    · rw [decide_eq_false h1, up_is h.1 h.2 (by omega) (by omega)]
      simp only [Bool.false_eq_true, if_false, Option.bind_some, if_true]
      by_cases h2 : upd (n * 1048576) s > 10000
      · rw [if_pos h2, if_neg (by omega)]
      · rw [if_neg h2, if_pos (by omega)]
  · rw [decide_eq_false h]
    simp only [Bool.false_eq_true, if_false, if_true]
    rw [if_neg (by omega)]
theorem LeO_up {α : Type} {f : Nat → Option α} (h : ∀ k, LeO (f k) (f (k + 1))) {r : α} {k : Nat} (e : f k = some r) : ∀ m, f (k + m) = some r
  | 0 => e
  | m + 1 => h _ r (LeO_up h e m)
theorem awake_is (k : Nat) (hk : 20 ≤ k) : tocsinlaw12_awake.f k = some true := by
  have := LeO_up (f := tocsinlaw12_awake.f) (fun k => tocsinlaw12_awake.mono k) (k := 20) (r := true) (by decide +kernel) (k - 20)
  rw [show 20 + (k - 20) = k by omega] at this
  exact this
/-- Up, and up again: not above. -/
theorem up_le {a b c : Int} (hc : 0 < c) (h : a ≤ b * c) : upd a c ≤ b := by
  have ⟨b1, b2⟩ := upd_bd a hc
  have : upd a c * c < (b + 1) * c := by rw [Int.add_mul, Int.one_mul]; omega
  have := Int.lt_of_mul_lt_mul_right this (by omega)
  omega
theorem up_gt {a b c : Int} (hc : 0 < c) (h : b * c < a) : b < upd a c := by
  have ⟨b1, b2⟩ := upd_bd a hc
  exact Int.lt_of_mul_lt_mul_right (show b * c < upd a c * c by omega) (by omega)

theorem add_is (a b : Int) (ha : -9223372036854775808 ≤ a ∧ a ≤ 9223372036854775807) (hb : -9223372036854775808 ≤ b ∧ b ≤ 9223372036854775807) : num_Add.f a b = some (held64 (a + b)) := by
  obtain ⟨ha0, ha1⟩ := ha; obtain ⟨hb0, hb1⟩ := hb
  unfold num_Add.f
  by_cases h : -9223372036854775808 ≤ a + b ∧ a + b ≤ 9223372036854775807
  · rw [held64_in h.1 h.2, w64 h.1 h.2]
    repeat' split
    all_goals first | rfl | omega
  · rw [held64_out (by omega)]
    unfold wrap64
    repeat' split
    all_goals first | rfl | omega

theorem radd_is (a b : Int) (ha : -9223372036854775808 ≤ a ∧ a ≤ 9223372036854775807) (hb : -9223372036854775808 ≤ b ∧ b ≤ 9223372036854775807) : tocsinref1_Add.f a b = some (held64 (a + b)) := by
  obtain ⟨ha0, ha1⟩ := ha; obtain ⟨hb0, hb1⟩ := hb
  unfold tocsinref1_Add.f
  by_cases h : -9223372036854775808 ≤ a + b ∧ a + b ≤ 9223372036854775807
  · rw [held64_in h.1 h.2, w64 h.1 h.2]
    repeat' split
    all_goals first | rfl | omega
  · rw [held64_out (by omega)]
    unfold wrap64
    repeat' split
    all_goals first | rfl | omega

theorem rsize_is (a : Int) (h0 : -9223372036854775808 ≤ a) (h1 : a ≤ 9223372036854775807) : tocsinref1_size.f a = some (a.natAbs : Int) := by
  unfold tocsinref1_size.f wrap64
  simp only [IntKind.wrap_u64]
  split <;> (congr 1; omega)
theorem rmul_is (a b : Int) (ha0 : 0 ≤ a) (ha1 : a < 18446744073709551616) (hb0 : 0 ≤ b) (hb1 : b < 18446744073709551616) :
    tocsinref1_mul.f a b = some (a * b / 18446744073709551616, a * b % 18446744073709551616) := by
  obtain ⟨p, q, r, s, hp, hq, hr, hs, he, b1⟩ := mul_parts ha0 ha1 hb0 hb1
  unfold tocsinref1_mul.f
  rw [mask32 ha0 ha1, mask32 hb0 hb1, hp, hq, hr, hs, he]
  simp only [IntKind.wrap_u64]
  rw [mask32 (by omega) (by omega), mask32 (by omega) (by omega)]
  rw [bits_join .u64 64 (by decide) (fun n h h' => by rw [IntKind.wrap_u64]; omega) 32 _ _ (by omega) (by omega) (by omega) (by omega) (by omega) (by omega)]
  congr 2 <;> omega
theorem times_is (a b : Int) (ha0 : -9223372036854775808 ≤ a) (ha1 : a ≤ 9223372036854775807) (hb0 : -9223372036854775808 ≤ b) (hb1 : b ≤ 9223372036854775807) :
    tocsinref1_times.f a b = some (decide (a * b < 0), ((a * b).natAbs : Int) / 18446744073709551616, ((a * b).natAbs : Int) % 18446744073709551616) := by
  have hbd := natAbs_bd a b ha0 ha1 hb0 hb1
  unfold tocsinref1_times.f
  rw [rsize_is a ha0 ha1, rsize_is b hb0 hb1]
  simp only [Option.bind_some]
  rw [rmul_is _ _ (by omega) (by omega) (by omega) (by omega), natAbs_mul_i]
  simp only [Option.bind_some]
  have hn := neg_mul_iff a b
  by_cases h : ((decide (a < 0)) != (decide (b < 0))) = true
  · rw [if_pos h]
    have hn : a * b < 0 ↔ a * b ≠ 0 := ⟨fun g => (hn.1 g).2, fun g => hn.2 ⟨h, g⟩⟩
    by_cases g : ((a * b).natAbs : Int) / 18446744073709551616 = 0
    · rw [if_pos g]
      congr 2
      rw [Bool.eq_iff_iff, bne_iff_ne, decide_eq_true_iff]
      omega
    · rw [if_neg g]
      congr 2
      symm; rw [decide_eq_true_iff]; omega
  · rw [if_neg h]
    congr 2
    have : ¬ a * b < 0 := fun g => h (hn.1 g).1
    simp [this]

theorem and_one {x : Int} (h0 : 0 ≤ x) (h1 : x < 18446744073709551616) : Go.bits .and .u64 x 1 = x % 2 :=
  bits_mask .u64 64 (by decide) (fun n h h' => by rw [IntKind.wrap_u64]; omega) 1 (by decide) x h0 h1
theorem or_even {x y : Int} (h0 : 0 ≤ x) (h1 : x < 18446744073709551616) (he : x % 2 = 0) (hy : 0 ≤ y) (hy2 : y < 2) : Go.bits .or .u64 x y = x + y :=
  bits_join .u64 64 (by decide) (fun n h h' => by rw [IntKind.wrap_u64]; omega) 1 x y h0 he h1 hy (by omega) (by omega)
theorem shr_is (x : Int) (n : Nat) (hn : n < 64) : shr .u64 x (IntKind.u64.wrap (n : Int)) = x / 2 ^ n := by
  rw [wu64 (by omega) (by omega)]
  unfold shr
  simp [IntKind.bits]
  rw [Nat.min_eq_left (by omega)]
/-- One bit after the other. -/
theorem rdivide_loop (c hi lo : Int) (bl : Bool) (hc0 : 0 < c) (hc1 : c < 18446744073709551616) (hl0 : 0 ≤ lo) (hl1 : lo < 18446744073709551616) :
    ∀ (n k : Nat) (rest q : Int), n ≤ 64 → n < k → 0 ≤ rest → rest < c → 0 ≤ q → q * 2 ^ n < 18446744073709551616 → q * c + rest = hi * 2 ^ (64 - n) + lo / 2 ^ n →
      tocsinref1_divide.l0 k c rest q ((n : Int) - 1) bl hi lo = some ((hi * 18446744073709551616 + lo) / c, ((hi * 18446744073709551616 + lo) % c != 0), true) := by
  intro n
  induction n with
  | zero =>
    intro k rest q _ hk hr0 hr1 hq0 hq1 he
    obtain ⟨k, rfl⟩ : ∃ m, k = m + 1 := ⟨k - 1, by omega⟩
    simp only [tocsinref1_divide.l0]
    rw [if_neg (by omega)]
    have e : hi * 18446744073709551616 + lo = c * q + rest := by
      have : q * c = c * q := Int.mul_comm _ _
      simp at he
      omega
    rw [e, Int.mul_add_ediv_left _ _ (by omega), Int.mul_add_emod_self_left, Int.ediv_eq_zero_of_lt hr0 hr1, Int.emod_eq_of_lt hr0 hr1]
    simp
  | succ n ih =>
    intro k rest q hn hk hr0 hr1 hq0 hq1 he
    obtain ⟨k, rfl⟩ : ∃ m, k = m + 1 := ⟨k - 1, by omega⟩
    have hp : (0 : Int) < 2 ^ n := Int.pow_pos (by decide)
    have hs : (2 : Int) ^ (n + 1) = 2 * 2 ^ n := by rw [Int.pow_succ]; omega
    have hs2 : (2 : Int) ^ (64 - n) = 2 * 2 ^ (64 - (n + 1)) := by rw [show 64 - n = 64 - (n + 1) + 1 by omega, Int.pow_succ]; omega
    have hb : lo / 2 ^ n = 2 * (lo / 2 ^ (n + 1)) + lo / 2 ^ n % 2 := by
      rw [hs, Int.mul_comm 2 (2 ^ n), ← Int.ediv_ediv_of_nonneg (by omega)]; omega
    have hd0 : 0 ≤ lo / 2 ^ n := Int.ediv_nonneg hl0 (by omega)
    have hd1 : lo / 2 ^ n < 18446744073709551616 := by
      have := Int.ediv_le_self (2 ^ n) hl0; omega
    have hq2 : 2 * q * 2 ^ n < 18446744073709551616 := by rw [hs] at hq1; have : q * (2 * 2 ^ n) = 2 * q * 2 ^ n := by grind
                                                          omega
    have hq3 : 2 * q < 18446744073709551616 := by
      have := Int.mul_le_mul_of_nonneg_left (show (1 : Int) ≤ 2 ^ n by omega) (show 0 ≤ 2 * q by omega); omega
    simp only [tocsinref1_divide.l0]
    rw [show ((n + 1 : Nat) : Int) - 1 = (n : Int) by omega]
    rw [if_pos (by omega), if_pos (by rw [IntKind.wrap_u64]; omega), shr_is lo n (by omega), and_one hd0 hd1]
    generalize hB : lo / 2 ^ n % 2 = B at *
    have hB0 : 0 ≤ B := by omega
    have hB1 : B < 2 := by omega
    rw [or_even (x := IntKind.u64.wrap (rest * 2)) (y := B) (by rw [IntKind.wrap_u64]; omega) (by rw [IntKind.wrap_u64]; omega) (by rw [IntKind.wrap_u64]; omega) hB0 hB1]
    rw [or_even (x := IntKind.u64.wrap (q * 2)) (y := 1) (by rw [IntKind.wrap_u64]; omega) (by rw [IntKind.wrap_u64]; omega) (by rw [IntKind.wrap_u64]; omega) (by omega) (by omega)]
    rw [wu64 (x := q * 2) (by omega) (by omega), w64 (x := (n : Int) - 1) (by omega) (by omega)]
    have he2 : 2 * q * c + (2 * rest + B) = hi * 2 ^ (64 - n) + lo / 2 ^ n := by
      rw [hb, hs2]
      have : 2 * q * c = 2 * (q * c) := by grind
      have : hi * (2 * 2 ^ (64 - (n + 1))) = 2 * (hi * 2 ^ (64 - (n + 1))) := by grind
      omega
    have go : 2 * rest + B ≥ c → tocsinref1_divide.l0 k c (2 * rest + B - c) (q * 2 + 1) ((n : Int) - 1) bl hi lo = some ((hi * 18446744073709551616 + lo) / c, ((hi * 18446744073709551616 + lo) % c != 0), true) := fun hge => by
      refine ih k _ _ (by omega) (by omega) (by omega) (by omega) (by omega) ?_ ?_
      · by_cases hn0 : n = 0
        · subst hn0; simp; omega
        · have : (2 : Int) ^ n = 2 * 2 ^ (n - 1) := by rw [show n = n - 1 + 1 by omega, Int.pow_succ]; simp; omega
          have h64 : (18446744073709551616 : Int) = 2 ^ n * 2 ^ (64 - n) := by rw [← Int.pow_add, show n + (64 - n) = 64 by omega]; rfl
          have hlt : 2 * q < 2 ^ (64 - n) := by
            rw [h64, Int.mul_comm] at hq2
            exact Int.lt_of_mul_lt_mul_left hq2 (by omega)
          have hev : (2 : Int) ^ (64 - n) = 2 * 2 ^ (64 - (n + 1)) := hs2
          have hle : q * 2 + 1 ≤ 2 ^ (64 - n) - 1 := by omega
          have := Int.mul_le_mul_of_nonneg_right hle (show (0 : Int) ≤ 2 ^ n by omega)
          rw [Int.sub_mul, Int.mul_comm (2 ^ (64 - n)), ← h64] at this
          omega
      · have : (q * 2 + 1) * c = 2 * q * c + c := by grind
        omega
    by_cases hcar : rest / 9223372036854775808 = 1
    · rw [if_pos hcar]
      have e : IntKind.u64.wrap (IntKind.u64.wrap (rest * 2) + B - c) = 2 * rest + B - c := by
        simp only [IntKind.wrap_u64]; omega
      rw [e]
      exact go (by omega)
    · rw [if_neg hcar]
      rw [wu64 (x := rest * 2) (by omega) (by omega)]
      by_cases hge : rest * 2 + B ≥ c
      · rw [if_pos hge, wu64 (x := rest * 2 + B - c) (by omega) (by omega), show rest * 2 + B - c = 2 * rest + B - c by omega]
        exact go (by omega)
      · rw [if_neg hge]
        refine ih k _ _ (by omega) (by omega) (by omega) (by omega) (by omega) (by rw [Int.mul_comm q 2]; exact hq2) ?_
        rw [Int.mul_comm q 2]
        omega
theorem rdivide_is (k : Nat) (c P : Int) (bl : Bool) (hc0 : 0 < c) (hc1 : c < 18446744073709551616) (hP0 : 0 ≤ P) (hk : 65 ≤ k) :
    tocsinref1_divide.f k bl (P / 18446744073709551616) (P % 18446744073709551616) c = some (if c ≤ P / 18446744073709551616 then (0, false, false) else (P / c, (P % c != 0), true)) := by
  unfold tocsinref1_divide.f
  by_cases h : P / 18446744073709551616 ≥ c
  · rw [if_pos h, if_pos h]
  · rw [if_neg h, if_neg (by omega)]
    have := rdivide_loop c (P / 18446744073709551616) (P % 18446744073709551616) bl hc0 hc1 (by omega) (by omega) 64 k (P / 18446744073709551616) 0 (by omega) (by omega) (by omega) (by omega) (by omega) (by omega) (by
      have : P % 18446744073709551616 / 2 ^ 64 = 0 := Int.ediv_eq_zero_of_lt (by omega) (by omega)
      rw [this]; simp)
    rw [show P / 18446744073709551616 * 18446744073709551616 + P % 18446744073709551616 = P by omega] at this
    exact this
theorem rsigned_is (q : Int) (bl : Bool) (h0 : 0 ≤ q) (h1 : q < 18446744073709551616) : tocsinref1_signed.f q bl = some (held64 (if bl = true then -q else q)) := by
  unfold tocsinref1_signed.f
  cases bl
  · simp only [Bool.false_eq_true, if_false]
    by_cases h : q > 9223372036854775807
    · rw [if_pos h, held64_out (by omega)]
    · rw [if_neg h, held64_in (by omega) (by omega), w64 (by omega) (by omega)]
  · simp only [if_true]
    by_cases h : q > 9223372036854775808
    · rw [if_pos h, held64_out (by omega)]
    · rw [if_neg h, held64_in (by omega) (by omega)]
      congr 2
      rw [IntKind.wrap_u64]; unfold wrap64; omega
theorem rpart_is (k : Nat) (a b c : Int) (up : Bool) (ha : -9223372036854775808 ≤ a ∧ a ≤ 9223372036854775807) (hb : -9223372036854775808 ≤ b ∧ b ≤ 9223372036854775807) (hc : c ≤ 9223372036854775807) (hk : 66 ≤ k) :
    tocsinref1_part.f k a b c up = some (if up = true then upI a b c else shareI a b c) := by
  obtain ⟨k, rfl⟩ : ∃ m, k = m + 1 := ⟨k - 1, by omega⟩
  have hP := natAbs_bd a b ha.1 ha.2 hb.1 hb.2
  have hP0 : 0 ≤ ((a * b).natAbs : Int) := by omega
  have hs := divd_share a b c
  unfold tocsinref1_part.f shareI upI
  by_cases h : c < 1
  · simp only [h, if_true, ite_self]
  · have hs := hs (by omega)
    obtain ⟨s1, s2⟩ := hs
    rw [if_neg h, if_neg h, if_neg h, times_is a b ha.1 ha.2 hb.1 hb.2, wu64 (x := c) (by omega) (by omega)]
    simp only [Option.bind_some]
    rw [rdivide_is (k + 1) c _ _ (by omega) (by omega) hP0 (by omega)]
    have hm0 := Int.emod_nonneg ((a * b).natAbs : Int) (show c ≠ 0 by omega)
    have hd0 : 0 ≤ ((a * b).natAbs : Int) / c := Int.ediv_nonneg hP0 (by omega)
    have hbig : c ≤ ((a * b).natAbs : Int) / 18446744073709551616 → 18446744073709551616 ≤ ((a * b).natAbs : Int) / c := fun g => by
      rw [Int.le_ediv_iff_mul_le (by omega)]; omega
    have hsm : ¬ c ≤ ((a * b).natAbs : Int) / 18446744073709551616 → ((a * b).natAbs : Int) / c < 18446744073709551616 := fun g => by
      rw [Int.ediv_lt_iff_lt_mul (by omega)]; omega
    rw [← s1, ← s2]
    generalize ((a * b).natAbs : Int) / 18446744073709551616 = hi at *
    generalize ((a * b).natAbs : Int) / c = q at *
    generalize ((a * b).natAbs : Int) % c = m at *
    simp only [Option.bind_some]
    by_cases g : c ≤ hi
    · have hbig := hbig g
      rw [if_pos g]
      simp only [Bool.false_eq_true, if_false]
      congr 1; symm
      split
      · rw [held64_out]; repeat' split
        all_goals omega
      · rw [held64_out]; repeat' split
        all_goals omega
    · have hsm := hsm g
      rw [if_neg g]
      simp only [if_true, tocsinref1_part.j0]
      by_cases hm : m = 0
      · subst hm
        simp only [bne_self_eq_false, Bool.false_eq_true, if_false, Int.lt_irrefl, and_false, Int.sub_zero, Int.add_zero, ite_self]
        rw [rsigned_is _ _ hd0 hsm]
        simp only [Option.bind_some, decide_eq_true_eq]
        congr 1
        show held64 _ = held64 _
        congr 1; split <;> omega
      · have hmb : (m != 0) = true := by rw [bne_iff_ne]; exact hm
        have hm1 : 0 < m := by omega
        rw [hmb]
        simp only [if_true, hm1, and_true]
        by_cases hx : a * b < 0
        · simp only [hx, decide_true, if_true, not_true_eq_false, if_false, Int.add_zero]
          cases up
          · simp only [Bool.false_bne, if_true, Bool.false_eq_true, if_false]
            by_cases hq : q = 18446744073709551615
            · rw [if_pos hq, held64_out (by omega)]
            · rw [if_neg hq, wu64 (by omega) (by omega), rsigned_is _ _ (by omega) (by omega)]
              simp only [Option.bind_some, if_true]
              congr 1
              show held64 _ = held64 _
              congr 1; omega
          · simp only [bne_self_eq_false, Bool.false_eq_true, if_false, if_true]
            rw [rsigned_is _ _ hd0 hsm]
            simp only [Option.bind_some, if_true]
            congr 1
            show held64 _ = held64 _
            congr 1; omega
        · simp only [hx, decide_false, if_false, not_false_eq_true, if_true, Int.sub_zero, Int.mul_one]
          cases up
          · simp only [bne_self_eq_false, Bool.false_eq_true, if_false]
            rw [rsigned_is _ _ hd0 hsm]
            simp only [Option.bind_some, Bool.false_eq_true, if_false]
          · simp only [Bool.true_bne, Bool.not_false, if_true]
            by_cases hq : q = 18446744073709551615
            · rw [if_pos hq, held64_out (by omega)]
            · rw [if_neg hq, wu64 (by omega) (by omega), rsigned_is _ _ (by omega) (by omega)]
              simp only [Option.bind_some, Bool.false_eq_true, if_false]

theorem mask20 {x : Int} (h0 : 0 ≤ x) (h1 : x ≤ 9223372036854775807) : Go.bits .and .i64 x 1048575 = x % 1048576 :=
  bits_mask .i64 63 (by decide) (fun n h h' => by rw [IntKind.wrap_i64]; omega) 20 (by decide) x h0 (by omega)

/-! The reference's shares, sums and texts. -/
abbrev BA (l : List UInt8) : ByteArray := ⟨l.toArray⟩
theorem BA_append (a b : List UInt8) : BA a ++ BA b = BA (a ++ b) := ByteArray.mk_append_mk a b
theorem BA_size (a : List UInt8) : (BA a).size = a.length := by simp [BA, ByteArray.size]
theorem dec_len (u : Nat) (h : (u : Int) ≤ 9223372036854775807) : (Lib.decDigits u).length ≤ 21 := by
  have := Lib.itoa_length_le (u : Int) (by omega) h
  rwa [Lib.itoa_nonneg] at this
theorem digits_is : ∀ (d k u : Nat), u < 10 ^ (d + 1) → d + 1 < k → (u : Int) ≤ 9223372036854775807 → tocsinref1_Digits.f k (u : Int) = some (BA (Lib.decDigits u))
  | d, 0, u, _, hk, _ => absurd hk (by omega)
  | d, k + 1, u, hu, hk, hm => by
    simp only [tocsinref1_Digits.f]
    rw [if_neg (by omega)]
    by_cases h : (u : Int) < 10
    · rw [if_pos h, Lib.decDigits_one (by omega)]
      congr 1
      unfold strOfNums
      rw [w64 (by omega) (by omega), Int.emod_eq_of_lt (by omega) (by omega)]
      simp only [List.map_cons, List.map_nil]
      rw [show (48 + (u : Int)).toNat = 48 + u by omega]
    · rw [if_neg h]
      have hd : d ≠ 0 := fun e => by subst e; simp at hu; omega
      obtain ⟨d, rfl⟩ : ∃ m, d = m + 1 := ⟨d - 1, by omega⟩
      have e1 : wrap64 (Int.tdiv (u : Int) 10) = ((u / 10 : Nat) : Int) := by
        rw [Int.tdiv_eq_ediv_of_nonneg (by omega), w64 (by omega) (by omega)]; omega
      have e2 : Int.tmod (u : Int) 10 = ((u % 10 : Nat) : Int) := by rw [Int.tmod_eq_emod_of_nonneg (by omega)]; omega
      rw [e1, e2]
      have hu2 : u / 10 < 10 ^ (d + 1) := by
        rw [Nat.div_lt_iff_lt_mul (by omega), ← Nat.pow_succ]; exact hu
      rw [digits_is d k (u / 10) hu2 (by omega) (by omega), digits_is d k (u % 10) (by have := Nat.pow_le_pow_right (show 0 < 10 by omega) (show 1 ≤ d + 1 by omega); omega) (by omega) (by omega)]
      simp only [Option.bind_some]
      have hl := dec_len (u / 10) (by omega)
      rw [Lib.decDigits_one (i := u % 10) (by omega)]
      rw [if_pos (by rw [BA_size, BA_size]; simp; omega), BA_append]
      congr 2
      conv => rhs; rw [Lib.decDigits, dif_neg (by omega)]
theorem rdig (k : Nat) (n : Int) (h0 : 0 ≤ n) (h1 : n ≤ 9223372036854775807) (hk : 30 ≤ k) : tocsinref1_Digits.f k n = some (BA (Lib.itoa n)) := by
  obtain ⟨u, rfl⟩ : ∃ u : Nat, n = (u : Int) := ⟨n.toNat, by omega⟩
  rw [Lib.itoa_nonneg]
  exact digits_is 19 k u (by omega) (by omega) h1
def pad3 (l : List UInt8) : List UInt8 := if l.length < 3 then (if l.length + 1 < 3 then 48 :: 48 :: l else 48 :: l) else l
theorem pad_all : ∀ m : Fin 1000, (Lib.decDigits (m.val + 1000)).drop 1 = pad3 (Lib.decDigits m.val) ∧ 1 ≤ (Lib.decDigits m.val).length := by decide +kernel
theorem pad_is (m : Int) (h0 : 0 ≤ m) (h1 : m ≤ 999) : (Lib.itoa (m + 1000)).drop 1 = pad3 (Lib.itoa m) ∧ 1 ≤ (Lib.itoa m).length := by
  obtain ⟨u, rfl⟩ : ∃ u : Nat, m = (u : Int) := ⟨m.toNat, by omega⟩
  rw [show (u : Int) + 1000 = ((u + 1000 : Nat) : Int) by omega, Lib.itoa_nonneg, Lib.itoa_nonneg]
  exact pad_all ⟨u, by omega⟩
theorem text_tail (k : Nat) (s : Int) (h0 : 0 ≤ s) (h1 : s ≤ 9223372036854775807) (l : List UInt8) (hl1 : 1 ≤ l.length) (hl2 : l.length ≤ 21) (hk : 40 ≤ k) :
    tocsinref1_Text.l0 k s (BA l) = some (BA (Lib.itoa (s / 1048576) ++ [46] ++ pad3 l)) := by
  have fin : ∀ (k : Nat) (l : List UInt8), 3 ≤ l.length → l.length ≤ 30 → 35 ≤ k → tocsinref1_Text.l0 k s (BA l) = some (BA (Lib.itoa (s / 1048576) ++ [46] ++ l)) := by
    intro k l h3 h4 hk
    obtain ⟨k, rfl⟩ : ∃ m, k = m + 1 := ⟨k - 1, by omega⟩
    simp only [tocsinref1_Text.l0]
    rw [if_neg (by rw [BA_size]; omega), rdig k _ (by omega) (by omega) (by omega)]
    simp only [Option.bind_some]
    have hi := Lib.itoa_length_le (s / 1048576) (by omega) (by omega)
    rw [show (⟨#[46]⟩ : ByteArray) = BA [46] from rfl]
    rw [if_pos (by rw [BA_size]; omega), BA_append, if_pos (by rw [BA_size, BA_size]; simp; omega), BA_append]
  have step : ∀ (k : Nat) (l : List UInt8), l.length < 3 → 1 ≤ k → tocsinref1_Text.l0 k s (BA l) = tocsinref1_Text.l0 (k - 1) s (BA (48 :: l)) := by
    intro k l h3 hk
    obtain ⟨k, rfl⟩ : ∃ m, k = m + 1 := ⟨k - 1, by omega⟩
    simp only [tocsinref1_Text.l0]
    rw [if_pos (by rw [BA_size]; omega), if_pos (by rw [BA_size]; omega)]
    rw [show (⟨#[48]⟩ : ByteArray) = BA [48] from rfl, BA_append]
    rfl
  unfold pad3
  by_cases h3 : l.length < 3
  · rw [if_pos h3, step k l h3 (by omega)]
    by_cases h4 : l.length + 1 < 3
    · rw [if_pos h4, step _ _ (by simp; omega) (by omega)]
      exact fin _ _ (by simp; omega) (by simp; omega) (by omega)
    · rw [if_neg h4]
      exact fin _ _ (by simp; omega) (by simp; omega) (by omega)
  · rw [if_neg h3]
    exact fin _ _ (by omega) (by omega) (by omega)
theorem textP_is (s : Int) (h0 : 0 ≤ s) (h1 : s ≤ 9223372036854775807) : textP s = BA (Lib.itoa (s / 1048576) ++ [46] ++ pad3 (Lib.itoa (s % 1048576 * 1000 / 1048576))) := by
  unfold textP
  have hp := (pad_is (s % 1048576 * 1000 / 1048576) (by omega) (by omega)).1
  rw [ByteArray.extract_mk, show (⟨#[46]⟩ : ByteArray) = BA [46] from rfl]
  show (BA _ ++ BA [46]) ++ BA _ = _
  rw [BA_append, BA_append]
  congr 2
  rw [← hp]
  unfold fracL
  rw [List.take_of_length_le (by simp)]
theorem rtext_pos (k : Nat) (s : Int) (h0 : 0 ≤ s) (h1 : s ≤ 9223372036854775807) (hk : 200 ≤ k) : tocsinref1_Text.f k s = some (textP s) := by
  obtain ⟨k, rfl⟩ : ∃ m, k = m + 1 := ⟨k - 1, by omega⟩
  simp only [tocsinref1_Text.f]
  rw [if_neg (by omega), mask20 h0 h1]
  unfold tocsinref1_Share.f
  rw [rpart_is k (s % 1048576) 1000 1048576 false (by omega) (by omega) (by omega) (by omega)]
  simp only [Bool.false_eq_true, if_false, Option.bind_some]
  rw [show shareI (s % 1048576) 1000 1048576 = (s % 1048576 * 1000 / 1048576, true) by unfold shareI; rw [if_neg (by omega), held64_in (by omega) (by omega)]]
  simp only
  rw [rdig k _ (by omega) (by omega) (by omega)]
  simp only [Option.bind_some]
  rw [text_tail k s h0 h1 _ (pad_is _ (by omega) (by omega)).2 (Lib.itoa_length_le _ (by omega) (by omega)) (by omega), textP_is s h0 h1]
theorem rtext_is (k : Nat) (s : Int) (h0 : -9223372036854775808 ≤ s) (h1 : s ≤ 9223372036854775807) (hk : 210 ≤ k) : tocsinref1_Text.f k s = some (textB s) := by
  unfold textB
  by_cases hn : s < 0
  · obtain ⟨k, rfl⟩ : ∃ m, k = m + 1 := ⟨k - 1, by omega⟩
    simp only [tocsinref1_Text.f]
    rw [if_pos hn]
    by_cases hm : s = -9223372036854775808
    · rw [if_pos hm, if_pos hm]
    · rw [if_neg hm, if_neg hm, if_pos hn, w64 (by omega) (by omega), rtext_pos k (-s) (by omega) (by omega) (by omega)]
      simp only [Option.bind_some]
      have := textP_size (-s) (by omega) (by omega)
      rw [if_pos (by omega)]
  · rw [if_neg (by omega), if_neg hn]
    exact rtext_pos k s (by omega) h1 (by omega)
theorem rup_is (k : Nat) {n c : Int} (h0 : 1 ≤ n) (h1 : n ≤ 1000) (hc : 0 < c) (hc2 : c ≤ 9223372036854775807) (hk : 66 ≤ k) : tocsinref1_Up.f k n 1048576 c = some (upd (n * 1048576) c, true) := by
  unfold tocsinref1_Up.f
  rw [rpart_is k n 1048576 c true (by omega) (by omega) hc2 hk, if_pos rfl]
  have := up_pos (x := n * 1048576) (c := c) (by omega) hc
  have e : upI n 1048576 c = (upd (n * 1048576) c, true) := by
    unfold upI
    rw [if_neg (by omega)]
    show held64 (upd (n * 1048576) c) = _
    unfold held64
    rw [if_pos (by unfold fits; omega)]
  rw [e]; rfl
theorem rutil_is (k : Nat) (n p : Int) (hk : 66 ≤ k) : tocsinref1_Util.f k n p = some (shareOf n p) := by
  unfold tocsinref1_Util.f shareOf
  by_cases h : (1 ≤ n ∧ n ≤ 1000) ∧ 1 ≤ p ∧ p ≤ 10000
  · rw [if_neg (by omega), if_neg (by omega), if_neg (by omega), if_neg (by omega), rup_is k h.1.1 h.1.2 (by omega) (by omega) hk]
    simp only [Option.bind_some]
    rw [if_pos h]
  · have e : (if (1 ≤ n ∧ n ≤ 1000) ∧ 1 ≤ p ∧ p ≤ 10000 then (upd (n * 1048576) p, true) else (0, false)) = ((0, false) : Int × Bool) := if_neg h
    rw [e]
    repeat' split
    all_goals first | rfl | omega
theorem rperiod_is (k : Nat) (n s : Int) (hs : -9223372036854775808 ≤ s ∧ s ≤ 9223372036854775807) (hk : 70 ≤ k) : tocsinref1_Period.f k n s = some (periodOf n s) := by
  obtain ⟨k, rfl⟩ : ∃ m, k = m + 1 := ⟨k - 1, by omega⟩
  unfold tocsinref1_Period.f
  simp only [tocsinref1_Period.j0, if_true]
  by_cases h : (1 ≤ n ∧ n ≤ 1000) ∧ 1 ≤ s
  · rw [if_neg (by omega), if_neg (by omega), decide_eq_false (by omega), rup_is k h.1.1 h.1.2 (by omega) (by omega) (by omega)]
    simp only [Bool.false_eq_true, if_false, Option.bind_some]
    unfold periodOf
    by_cases g : upd (n * 1048576) s > 10000
    · rw [if_pos g, if_neg (by omega)]
    · rw [if_neg g, if_pos (by omega)]
  · have e : periodOf n s = (0, false) := by unfold periodOf; rw [if_neg (fun g => h g.1)]
    rw [e]
    by_cases h1 : n < 1
    · rw [if_pos h1]
    · rw [if_neg h1]
      by_cases h2 : n > 1000
      · rw [if_pos h2]
      · rw [if_neg h2, decide_eq_true (by omega)]; rfl
theorem sum_dead (l : List Int) (hl : l.length ≤ 100) : ∀ (d k i : Nat), i ≤ l.length → l.length - i = d → d + 1 < k → util_Sum.l0 k 0 false l (l.length : Int) (i : Int) = some (0, false) := by
  intro d
  induction d with
  | zero =>
    intro k i hi hd hk
    obtain ⟨k, rfl⟩ : ∃ m, k = m + 1 := ⟨k - 1, by omega⟩
    simp only [util_Sum.l0]
    rw [if_neg (by omega)]
  | succ d ih =>
    intro k i hi hd hk
    obtain ⟨k, rfl⟩ : ∃ m, k = m + 1 := ⟨k - 1, by omega⟩
    have := ih k (i + 1) (by omega) (by omega) (by omega)
    simp only [util_Sum.l0]
    rw [if_pos (by omega), if_pos (by omega), if_pos (by omega), w64 (x := (i : Int) + 1) (by omega) (by omega), show ((i : Int) + 1) = ((i + 1 : Nat) : Int) by omega]
    split
    · rfl
    · exact this
theorem sum_both (l : List Int) (hl : l.length ≤ 100) (hw : ∀ n ∈ l, -9223372036854775808 ≤ n ∧ n ≤ 9223372036854775807) : ∀ (d k i : Nat) (acc : Int), i ≤ l.length → l.length - i = d → d + 1 < k → (-9223372036854775808 ≤ acc ∧ acc ≤ 9223372036854775807) →
    ∃ r, util_Sum.l0 k acc true l (l.length : Int) (i : Int) = some r ∧ tocsinref1_Sum.l0 k l acc (i : Int) = some r := by
  intro d
  induction d with
  | zero =>
    intro k i acc hi hd hk ha
    obtain ⟨k, rfl⟩ : ∃ m, k = m + 1 := ⟨k - 1, by omega⟩
    simp only [util_Sum.l0, tocsinref1_Sum.l0]
    rw [if_neg (by omega), if_neg (by omega)]
    exact ⟨_, rfl, rfl⟩
  | succ d ih =>
    intro k i acc hi hd hk ha
    obtain ⟨k, rfl⟩ : ∃ m, k = m + 1 := ⟨k - 1, by omega⟩
    simp only [util_Sum.l0, tocsinref1_Sum.l0]
    have hx : -9223372036854775808 ≤ rd l (i : Int) ∧ rd l (i : Int) ≤ 9223372036854775807 := by
      refine hw _ ?_
      unfold rd
      rw [show ((i : Int)).toNat = i by omega, List.getD_eq_getElem?_getD, List.getElem?_eq_getElem (by omega)]
      exact List.getElem_mem _
    rw [if_pos (show (i : Int) < (l.length : Int) by omega), if_pos (show (0 : Int) ≤ (i : Int) by omega), if_pos (show (i : Int) < (l.length : Int) by omega), if_pos (show (i : Int) < (l.length : Int) by omega), if_pos (show (0 : Int) ≤ (i : Int) by omega)]
    rw [add_is _ _ ha hx, radd_is _ _ ha hx, w64 (x := (i : Int) + 1) (by omega) (by omega), show ((i : Int) + 1) = ((i + 1 : Nat) : Int) by omega]
    simp only [Option.bind_some, if_true]
    by_cases h0 : rd l (i : Int) < 0
    · rw [if_pos h0, if_pos h0]; exact ⟨_, rfl, rfl⟩
    · rw [if_neg h0, if_neg h0]
      by_cases hf : fits (acc + rd l (i : Int))
      · rw [held64_in hf.1 hf.2]
        simp only [if_true]
        exact ih k (i + 1) _ (by omega) (by omega) (by omega) hf
      · rw [held64_out (by unfold fits at hf; omega)]
        simp only [Bool.false_eq_true, if_false]
        exact ⟨_, sum_dead l hl d k (i + 1) (by omega) (by omega) (by omega), rfl⟩


theorem bl_irr : ∀ a : List UInt8, Op.bytesLess a a = false
  | [] => rfl
  | a :: x => by simp [Op.bytesLess, bl_irr x, UInt8.lt_irrefl]
theorem bl_asym : ∀ a b : List UInt8, Op.bytesLess a b = true → Op.bytesLess b a = false
  | _, [], h => by simp [Op.bytesLess] at h
  | [], _ :: _, _ => rfl
  | a :: x, b :: y, h => by
    simp only [Op.bytesLess, Bool.or_eq_true, decide_eq_true_eq, Bool.and_eq_true, beq_iff_eq] at h
    simp only [Op.bytesLess, Bool.or_eq_false_iff, decide_eq_false_iff_not, Bool.and_eq_false_iff, beq_eq_false_iff_ne]
    rcases h with h | ⟨rfl, h⟩
    · refine ⟨fun g => UInt8.lt_irrefl _ (UInt8.lt_trans h g), .inl fun e => ?_⟩
      subst e; exact UInt8.lt_irrefl _ h
    · exact ⟨UInt8.lt_irrefl _, .inr (bl_asym x y h)⟩
theorem bl_pre : ∀ (a x y : List UInt8), Op.bytesLess (a ++ x) (a ++ y) = Op.bytesLess x y
  | [], _, _ => rfl
  | c :: a, x, y => by simp [Op.bytesLess, bl_pre a x y, UInt8.lt_irrefl]
theorem bl_app : ∀ (a b x y : List UInt8), Op.bytesLess a b = true → a.length = b.length → Op.bytesLess (a ++ x) (b ++ y) = true
  | _, [], _, _, h, _ => by simp [Op.bytesLess] at h
  | [], _ :: _, _, _, _, hl => by simp at hl
  | a :: p, b :: q, x, y, h, hl => by
    simp only [Op.bytesLess, Bool.or_eq_true, decide_eq_true_eq, Bool.and_eq_true, beq_iff_eq, List.cons_append] at h ⊢
    rcases h with h | ⟨rfl, h⟩
    · exact .inl h
    · exact .inr ⟨rfl, bl_app p q x y h (by simpa using hl)⟩
theorem dig_lt {u v : Nat} (h : u < v) (hv : v < 10) : Op.bytesLess [UInt8.ofNat (48 + u)] [UInt8.ofNat (48 + v)] = true := by
  have : ∀ v : Fin 10, ∀ u : Fin 10, u.val < v.val → Op.bytesLess [UInt8.ofNat (48 + u.val)] [UInt8.ofNat (48 + v.val)] = true := by decide +kernel
  exact this ⟨v, hv⟩ ⟨u, by omega⟩ h
theorem dec_pos (u : Nat) : 1 ≤ (Lib.decDigits u).length := by
  rw [Lib.decDigits]
  split
  · simp
  · simp
theorem dec_step (u : Nat) (h : ¬ u < 10) : Lib.decDigits u = Lib.decDigits (u / 10) ++ [UInt8.ofNat (48 + u % 10)] := by
  conv => lhs; rw [Lib.decDigits, dif_neg h]
theorem dec_mono : ∀ (v u : Nat), u ≤ v → (Lib.decDigits u).length ≤ (Lib.decDigits v).length ∧ ((Lib.decDigits u).length = (Lib.decDigits v).length → u < v → Op.bytesLess (Lib.decDigits u) (Lib.decDigits v) = true) := by
  intro v
  induction v using Nat.strongRecOn with
  | _ v ih =>
    intro u huv
    by_cases hv : v < 10
    · rw [Lib.decDigits_one hv, Lib.decDigits_one (i := u) (by omega)]
      exact ⟨by simp, fun _ h => dig_lt h hv⟩
    · rw [dec_step v hv]
      have hp := dec_pos (v / 10)
      by_cases hu : u < 10
      · rw [Lib.decDigits_one hu]
        refine ⟨by simp, fun h => ?_⟩
        simp at h
        exfalso
        rw [h] at hp; simp at hp
      · rw [dec_step u hu]
        have hi := ih (v / 10) (by omega) (u / 10) (by omega)
        refine ⟨by simp; exact hi.1, fun h hlt => ?_⟩
        simp at h
        by_cases e : u / 10 = v / 10
        · rw [e, bl_pre]
          exact dig_lt (by omega) (by omega)
        · exact bl_app _ _ _ _ (hi.2 h (by omega)) h
theorem itoa_mono {a b : Int} (h0 : 0 ≤ a) (h : a ≤ b) : (Lib.itoa a).length ≤ (Lib.itoa b).length ∧ ((Lib.itoa a).length = (Lib.itoa b).length → a < b → Op.bytesLess (Lib.itoa a) (Lib.itoa b) = true) := by
  obtain ⟨u, rfl⟩ : ∃ u : Nat, a = (u : Int) := ⟨a.toNat, by omega⟩
  obtain ⟨v, rfl⟩ : ∃ v : Nat, b = (v : Int) := ⟨b.toNat, by omega⟩
  rw [Lib.itoa_nonneg, Lib.itoa_nonneg]
  have := dec_mono v u (by omega)
  exact ⟨this.1, fun h g => this.2 h (by omega)⟩
theorem frac_all : ∀ m : Fin 1000, (pad3 (Lib.decDigits m.val)).length = 3 ∧ Lib.decDigits (m.val + 1000) = 49 :: pad3 (Lib.decDigits m.val) := by decide +kernel
theorem frac_is (m : Int) (h0 : 0 ≤ m) (h1 : m ≤ 999) : (pad3 (Lib.itoa m)).length = 3 ∧ Lib.itoa (m + 1000) = 49 :: pad3 (Lib.itoa m) := by
  obtain ⟨u, rfl⟩ : ∃ u : Nat, m = (u : Int) := ⟨m.toNat, by omega⟩
  rw [show (u : Int) + 1000 = ((u + 1000 : Nat) : Int) by omega, Lib.itoa_nonneg, Lib.itoa_nonneg]
  exact frac_all ⟨u, by omega⟩
theorem frac_le {a b : Int} (h0 : 0 ≤ a) (h : a ≤ b) (h1 : b ≤ 999) : Op.bytesLess (pad3 (Lib.itoa b)) (pad3 (Lib.itoa a)) = false := by
  by_cases e : a = b
  · subst e; exact bl_irr _
  · have ha := frac_is a h0 (by omega)
    have hb := frac_is b (by omega) h1
    have := (itoa_mono (a := a + 1000) (b := b + 1000) (by omega) (by omega)).2 (by rw [ha.2, hb.2]; simp [ha.1, hb.1]) (by omega)
    rw [ha.2, hb.2] at this
    have e2 := bl_pre [49] (pad3 (Lib.itoa a)) (pad3 (Lib.itoa b))
    simp only [List.cons_append, List.nil_append] at e2
    rw [e2] at this
    exact bl_asym _ _ this
def tx (s : Int) : List UInt8 := Lib.itoa (s / 1048576) ++ [46] ++ pad3 (Lib.itoa (s % 1048576 * 1000 / 1048576))
theorem tx_len (s : Int) (h0 : 0 ≤ s) : (tx s).length = (Lib.itoa (s / 1048576)).length + 4 := by
  unfold tx
  have := (frac_is (s % 1048576 * 1000 / 1048576) (by omega) (by omega)).1
  simp [this]
theorem tx_dot (s : Int) (h0 : 0 ≤ s) : (tx s)[(tx s).length - 4]? = some 46 := by
  rw [tx_len s h0]
  unfold tx
  rw [List.append_assoc, List.getElem?_append_right (by omega)]
  simp
theorem itoa_pos (n : Int) (h : 0 ≤ n) : 1 ≤ (Lib.itoa n).length := by
  obtain ⟨u, rfl⟩ : ∃ u : Nat, n = (u : Int) := ⟨n.toNat, by omega⟩
  rw [Lib.itoa_nonneg]; exact dec_pos u
theorem tx_rise {a b : Int} (h0 : 0 ≤ a) (h : a ≤ b) : (tx a).length ≤ (tx b).length ∧ ((tx a).length = (tx b).length → Op.bytesLess (tx b) (tx a) = false) := by
  have hq := itoa_mono (a := a / 1048576) (b := b / 1048576) (by omega) (by omega)
  rw [tx_len a h0, tx_len b (by omega)]
  refine ⟨by omega, fun hl => ?_⟩
  unfold tx
  by_cases e : a / 1048576 = b / 1048576
  · rw [e, bl_pre]
    exact frac_le (by omega) (by omega) (by omega)
  · refine bl_asym _ _ ?_
    rw [List.append_assoc, List.append_assoc]
    exact bl_app _ _ _ _ (hq.2 (by omega) (by omega)) (by omega)
theorem law (a b : Int) (ha : -9223372036854775808 ≤ a ∧ a ≤ 9223372036854775807) (hb : -9223372036854775808 ≤ b ∧ b ≤ 9223372036854775807) : tocsinlaw12_UtilTexts.f 60 a b = some true := by
  unfold tocsinlaw12_UtilTexts.f
  rw [awake_is _ (by omega)]
  simp only [Option.bind_some, if_true, tocsinlaw12_UtilTexts.j0]
  refine g_if fun h0 => ?_
  by_cases h1 : b < a
  · rw [decide_eq_true h1]; rfl
  rw [decide_eq_false h1]
  simp only [Bool.false_eq_true, if_false]
  have tf : ∀ s : Int, 0 ≤ s → s ≤ 9223372036854775807 → util_Text.f s = some (BA (tx s)) := fun s g0 g1 => by
    unfold util_Text.f
    rw [if_pos (by omega)]
    unfold textB
    rw [if_neg (by omega), if_neg (by omega), textP_is s g0 g1]; rfl
  rw [tf a (by omega) ha.2, tf b (by omega) hb.2]
  simp only [Option.bind_some]
  have hr := tx_rise (a := a) (b := b) (by omega) (by omega)
  have hl := tx_len a (by omega)
  have hp := itoa_pos (a / 1048576) (by omega)
  have hu := Lib.itoa_length_le (a / 1048576) (by omega) (by omega)
  have hd := tx_dot a (by omega)
  have hbt : bt (BA (tx a)) (((tx a).length - 4 : Nat) : Int) = 46 := by
    have hlt : (tx a).length - 4 < (tx a).length := by omega
    rw [List.getElem?_eq_getElem hlt] at hd
    have hd2 := Option.some.inj hd
    have h2 : (tx a).length - 4 < (BA (tx a)).size := by rw [BA_size]; exact hlt
    have e : (BA (tx a))[(tx a).length - 4] = (tx a)[(tx a).length - 4] := by simp [BA, ByteArray.getElem_eq_getElem_data]
    unfold bt
    simp only [Int.toNat_natCast]
    rw [dif_pos h2]
    rw [e, hd2]; rfl
  simp only [BA_size]
  rw [w64 (x := ((tx a).length : Int) - 4) (by omega) (by omega), show (((tx a).length : Int) - 4) = (((tx a).length - 4 : Nat) : Int) by omega, hbt]
  rw [if_pos (by omega)]
  have last : (if ((tx a).length : Int) ≥ 5 then (if (0 : Int) ≤ (((tx a).length - 4 : Nat) : Int) then (if (((tx a).length - 4 : Nat) : Int) < ((tx a).length : Int) then some ((46 : Int) == 46) else none) else none) else some false) = some true := by
    rw [if_pos (by omega), if_pos (by omega), if_pos (by omega)]; rfl
  by_cases hs : ((tx a).length : Int) < ((tx b).length : Int)
  · rw [if_pos hs]; exact last
  · rw [if_neg hs]
    have := hr.2 (by omega)
    rw [show (BA (tx b)).toList = tx b by simp, show (BA (tx a)).toList = tx a by simp, this]
    simp only [Bool.false_eq_true, if_false]
    exact last
theorem own : ownKnob Tryd.prog.godebug = none := by kernel_rfl
theorem Tryd.laidOut : laidOutB Tryd.prog = true := by kernel_rfl
open Go.ChangeShapes Go.WideShapes Go.ChangeAt Go.RowKit
open Go.ChangeMaps (open_string shut_string)
abbrev laidL : List (String × DataW Unit) := [("math/bits.deBruijn32tab", Rows.laid_math_bits_deBruijn32tab), ("math/bits.deBruijn64tab", Rows.laid_math_bits_deBruijn64tab), ("internal/strconv.uint64pow10", Rows.laid_internal_strconv_uint64pow10)]
theorem door_met (os : Os) (args : Array Value) : laidMetH Tryd.prog laidL ((World.doorLaid Tryd.prog 400 os).forCall (fun _ _ => 0) ⟨#[], args, []⟩).memory :=
  laidMetH_of_parts3 (fuel := 8) (laidMet_of_run' 8 (by kernel_rfl) (by kernel_rfl)) (by kernel_rfl) (by kernel_rfl)
theorem tab_of_laid {W : World} (h : laidMetH Tryd.prog laidL W) : Tab W := by
  rw [MakeChecks.laidMetH_plain _ _ _ (by kernel_rfl)] at h
  obtain ⟨ps, ⟨g0, t0, cs0, f0, p0, q0, hg0, ht0, hv0, hd0, ⟨g1, t1, cs1, f1, p1, q1, hg1, ht1, hv1, hd1, ⟨g2, t2, cs2, f2, p2, q2, hg2, ht2, hv2, hd2, _, _⟩, _⟩, _⟩, _⟩ := h
  obtain rfl := Option.some.inj (gTab.symm.trans hg2)
  obtain rfl := Option.some.inj ((show (Tryd.prog.globals[2]?).map (·.type) = some 70 by kernel_rfl).symm.trans ht2)
  unfold Tab Lib.TabIs
  rw [hv2, ← Lib.cells_of_tab (n := 20) (e := 41) Tryd.underlying70 Tryd.underlying41 (by kernel_rfl) (by kernel_rfl) hd2]
set_option maxRecDepth 100000 in
theorem lifted (os : Os) (started : os.Started) (H : Type) (enc : TypeId × Value → H) :
    ReturnsInHanded {} Tryd.checked os 4 .any (fun w args => (Rows.utilTextsSpec.pre enc Tryd.prog Tryd.f4 Rows.utilTextsRow.domain false w args ∧ laidMetH Tryd.prog laidL w) ∧ sizedMet enc Tryd.prog Tryd.f4 (OpenSpec.ofChange Rows.utilTextsSpec) false w args) (Rows.utilTextsSpec.post enc Tryd.prog Tryd.f4 false true false false) := by
  refine returnsInHanded_of_change_and (C := Tryd.checked) (X := fun w _ => laidMetH Tryd.prog laidL w) (fun _ _ _ hh h => h.of_heap hh) own started (by kernel_rfl) Tryd.func4
    (ChangeSpec.witness_shaped (enc := enc) (C := Tryd.checked) (os := os) (X := fun w _ => laidMetH Tryd.prog laidL w) false (World.doorLaid Tryd.prog 400 os) #[.int .i64 0, .int .i64 0] 8 rfl (World.shaped_of_RefB (by kernel_rfl) (by kernel_rfl)) (by kernel_rfl) (by kernel_rfl) (by kernel_rfl) (door_met os _)) ?_
  intro W base args ds gs before hval0 hW hcnd hsz0 hL _
  have hTb := tab_of_laid hL
  have hsz : (DataW.weightsEach Tryd.prog (Tryd.f4.params.toList ++ Rows.utilTextsSpec.plain.varTypes Tryd.prog) (ds ++ gs)).all (· ≤ reachBytes) = true := hsz0
  have hval : ∀ (j : Nat) t v, Tryd.f4.params[j]? = some t → args[j]? = some v → Value.okWide Tryd.prog W .any base t v := hval0
  have hW' := hW
  obtain ⟨p, q, hA0, hV, rfl, hfz, hnd⟩ := hW
  have hA : DataW.TrodAll enc Tryd.prog W 0 (fun _ => true) true Tryd.f4.params.toList args.toList ds p := hA0
  rw [Tryd.params4] at hA hval hsz
  obtain ⟨v0, vs0, d0, ds0, p0, q0, hargs, rfl, rfl, h0, r0⟩ := trodAll_cons hA
  obtain ⟨v1, vs1, d1, ds1, p1, q1, rfl, rfl, rfl, h1, r1⟩ := trodAll_cons r0
  obtain ⟨rfl, rfl, rfl⟩ := trodAll_nil r1
  obtain rfl : args = #[v0, v1] := by cases args; simp_all
  obtain ⟨rfl, rfl⟩ := trodVars_none hV
  have k0 := h0
  have k1 := h1
  have lt0 : ∀ x ∈ p0, x.block < W.heap.size := by obtain ⟨m, hm⟩ := k0; exact DataW.trod_lt m _ _ _ hm
  have lt1 : ∀ x ∈ p1, x.block < W.heap.size := by obtain ⟨m, hm⟩ := k1; exact DataW.trod_lt m _ _ _ hm
  obtain ⟨a0, rfl, rfl, rfl, w0⟩ := open_int Tryd.underlying2 (hval 0 2 v0 rfl rfl) h0
  obtain ⟨a1, rfl, rfl, rfl, w1⟩ := open_int Tryd.underlying2 (hval 1 2 v1 rfl rfl) h1
  clear hA0 hval0 hsz0 hsz
  refine (tocsinlaw12_UtilTexts.calls 60 a0 a1 true W hTb (law a0 a1 (wf_i64 w0) (wf_i64 w1)) rfl).mono fun e W' ⟨he, bel⟩ => ?_
  subst he
  exact ⟨_, rfl, _, _, _, _, _, [], hW', trodAll_mk1 (shut_bool Tryd.underlying4 _), (trodAll_cons_mk (Below.trod Tryd.laidOut (by kernel_rfl) (of_decide_eq_true (by kernel_rfl)) k0 bel lt0) (trodAll_cons_mk (Below.trod Tryd.laidOut (by kernel_rfl) (of_decide_eq_true (by kernel_rfl)) k1 bel lt1) trodAll_mk0)), rfl, bel.frame _, fun h => by cases h⟩
theorem over : Rows.utilTextsRow.holds Tryd.pinned (OpenSpec.ofChange Rows.utilTextsSpec) :=
  OpenClaim.holds_of_wide 4 Tryd.f4 rfl rfl rfl rfl rfl rfl rfl ⟨rfl, rfl, rfl, rfl, rfl⟩ rfl rfl rfl rfl rfl (by kernel_rfl) Tryd.func4 (by kernel_rfl)
    (of_decide_eq_true (by kernel_rfl)) (by unfold Func.isWrapper; first | (rw [if_pos (by decide +kernel)]; kernel_rfl) | (rw [if_neg (by decide +kernel)]; exact ⟨rfl, rfl⟩))
    (fun os started H enc _ => lifted os started H enc)
end Go.Proofs.YteahinhmdeakfaaDoor.Pure
namespace Go.Proofs.YteahinhmdeakfaaDoor
open Go
/-- The tied card. -/
theorem utilTextsCard_holds : Rows.UtilTextsCardSaid :=
  Claim7.holds_tied_plain_at .later [] [.data, .data, .data] true (true, "48a580eb6154ba227cf72675b8cbe52c1496aae00cba3b164a538688a71db16a") false
    Pure.over (fun _ h => by cases h) (by kernel_rfl) (fun _ h => by cases h) utilTexts_row_tie rfl ⟨rfl, rfl⟩ (by kernel_rfl) rfl
    (fun f fn hf hfn => by
      obtain rfl : f = 4 := Option.some.inj ((show Tryd.prog.funcNamed "tocsin/tocsinlaw12.UtilTexts" = some 4 by kernel_rfl).symm.trans hf) |>.symm
      obtain rfl : fn = Tryd.f4 := (Option.some.inj (Tryd.func4.symm.trans hfn)).symm
      exact ⟨by kernel_rfl, fun j t ht => by
        rw [Tryd.params4] at ht
        have hm : t ∈ ([2, 2] : List TypeId) := by simpa using Array.mem_of_getElem? ht
        have hall : (([2, 2] : List TypeId).all fun u => !Tryd.prog.wantsStandIn u) = true := by kernel_rfl
        exact (show Tryd.prog.wantsStandIn t = false by simpa using List.all_eq_true.1 hall t hm)⟩)
    (by kernel_rfl)
end Go.Proofs.YteahinhmdeakfaaDoor
#print axioms Go.Proofs.YteahinhmdeakfaaDoor.utilTextsCard_holds
namespace Go.Proofs.YteahinhmdeakfaaDoor.Pure

end Go.Proofs.YteahinhmdeakfaaDoor.Pure
