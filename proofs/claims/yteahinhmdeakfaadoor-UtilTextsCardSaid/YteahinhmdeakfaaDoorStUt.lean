/- Contracts that the print takes as given: num.Up, num.Share, util.Text (the last where the table of powers of ten stands as it was laid). -/
import Derived.Lib.BitFns
import Derived.Test.YteahinhmdeakfaaDoorShelf
import Derived.Test.YteahinhmdeakfaaDoorPUtx0
import Derived.Test.YteahinhmdeakfaaDoorPGdx
import Derived.Lib.AppendIntMem
import Derived.Lib.ItoaLen
namespace Go.Proofs.YteahinhmdeakfaaDoor.PUt
open Go.RowKit Go.Proofs.YteahinhmdeakfaaDoor.PUt Go.Proofs.YteahinhmdeakfaaDoorW.PrintWords Go.Proofs.YteahinhmdeakfaaDoorW.PrintLast Go.Proofs.YteahinhmdeakfaaDoorW.PrintMore Go.Proofs.YteahinhmdeakfaaDoor.PGd
set_option linter.unusedVariables false
set_option linter.unusedSimpArgs false

theorem w64 {x : Int} (h0 : -9223372036854775808 ≤ x) (h1 : x ≤ 9223372036854775807) : wrap64 x = x := by unfold wrap64; omega
theorem wu64 {x : Int} (h0 : 0 ≤ x) (h1 : x < 18446744073709551616) : IntKind.u64.wrap x = x := by rw [IntKind.wrap_u64]; omega
theorem wf_i64 {a : Int} (h : (Lit.int .i64 a).wf = true) : -9223372036854775808 ≤ a ∧ a ≤ 9223372036854775807 := by
  simp [Lit.wf, IntKind.min, IntKind.max, IntKind.signed, IntKind.bits] at h
  omega
theorem mul_bd {x y : Int} (a b : Int) (h1 : -a ≤ x) (h2 : x ≤ a) (h3 : -b ≤ y) (h4 : y ≤ b) : -(a * b) ≤ x * y ∧ x * y ≤ a * b := by
  have hx : x.natAbs ≤ a.natAbs := by omega
  have hy : y.natAbs ≤ b.natAbs := by omega
  have h := Nat.mul_le_mul hx hy
  rw [← Int.natAbs_mul, ← Int.natAbs_mul] at h
  have ha : 0 ≤ a * b := Int.mul_nonneg (by omega) (by omega)
  omega
theorem mul_bd0 {x y : Int} (a b : Int) (h1 : 0 ≤ x) (h2 : x ≤ a) (h3 : 0 ≤ y) (h4 : y ≤ b) : 0 ≤ x * y ∧ x * y ≤ a * b :=
  ⟨Int.mul_nonneg h1 h3, Int.mul_le_mul h2 h4 h3 (Int.le_trans h1 h2)⟩
theorem g_if {c : Prop} [Decidable c] {X : Option Bool} (h : ¬ c → X = some true) : (if c then some true else X) = some true := by
  by_cases g : c
  · rw [if_pos g]
  · rw [if_neg g]; exact h g

theorem mask32 {x : Int} (h0 : 0 ≤ x) (h1 : x < 18446744073709551616) : Go.bits .and .u64 x 4294967295 = x % 4294967296 :=
  bits_mask .u64 64 (by decide) (fun n h h' => by rw [IntKind.wrap_u64]; omega) 32 (by decide) x h0 h1
theorem bits_or_pos {x y : Int} (hx0 : 0 ≤ x) (hx1 : x < 18446744073709551616) (hy0 : 0 ≤ y) (hy1 : y < 18446744073709551616) : (Go.bits .or .u64 x y > 0) ↔ (x ≠ 0 ∨ y ≠ 0) := by
  obtain ⟨a, rfl⟩ := Int.eq_ofNat_of_zero_le hx0
  obtain ⟨b, rfl⟩ := Int.eq_ofNat_of_zero_le hy0
  rw [(bits_nat .u64 64 (by decide) (fun n h h' => by rw [IntKind.wrap_u64]; omega) a b (by omega) (by omega)).2]
  have h1 : a ≤ a ||| b := Nat.left_le_or
  have h2 : b ≤ a ||| b := Nat.right_le_or
  constructor
  · intro h
    by_cases ha : a = 0
    · subst ha
      right
      rw [Nat.zero_or] at h
      omega
    · left; omega
  · intro h; omega
theorem mul_parts {a b : Int} (ha0 : 0 ≤ a) (ha1 : a < 18446744073709551616) (hb0 : 0 ≤ b) (hb1 : b < 18446744073709551616) :
    ∃ p q r s : Int, (a / 4294967296) * (b / 4294967296) = p ∧ (a / 4294967296) * (b % 4294967296) = q ∧ (a % 4294967296) * (b / 4294967296) = r ∧ (a % 4294967296) * (b % 4294967296) = s ∧
      a * b = p * 18446744073709551616 + (q + r) * 4294967296 + s ∧ 0 ≤ p ∧ p ≤ 18446744065119617025 ∧ 0 ≤ q ∧ q ≤ 18446744065119617025 ∧ 0 ≤ r ∧ r ≤ 18446744065119617025 ∧ 0 ≤ s ∧ s ≤ 18446744065119617025 := by
  have e : a = (a / 4294967296) * 4294967296 + a % 4294967296 := by omega
  have f : b = (b / 4294967296) * 4294967296 + b % 4294967296 := by omega
  refine ⟨_, _, _, _, rfl, rfl, rfl, rfl, ?_, ?_⟩
  · have g : ((a / 4294967296) * 4294967296 + a % 4294967296) * ((b / 4294967296) * 4294967296 + b % 4294967296) = (a / 4294967296) * (b / 4294967296) * 18446744073709551616 + ((a / 4294967296) * (b % 4294967296) + (a % 4294967296) * (b / 4294967296)) * 4294967296 + (a % 4294967296) * (b % 4294967296) := by
      generalize a / 4294967296 = x; generalize a % 4294967296 = y; generalize b / 4294967296 = z; generalize b % 4294967296 = t
      grind
    rw [← e, ← f] at g
    exact g
  · have h1 := mul_bd0 (x := a / 4294967296) (y := b / 4294967296) 4294967295 4294967295 (by omega) (by omega) (by omega) (by omega)
    have h2 := mul_bd0 (x := a / 4294967296) (y := b % 4294967296) 4294967295 4294967295 (by omega) (by omega) (by omega) (by omega)
    have h3 := mul_bd0 (x := a % 4294967296) (y := b / 4294967296) 4294967295 4294967295 (by omega) (by omega) (by omega) (by omega)
    have h4 := mul_bd0 (x := a % 4294967296) (y := b % 4294967296) 4294967295 4294967295 (by omega) (by omega) (by omega) (by omega)
    omega
theorem mul64_is (a b : Int) (ha0 : 0 ≤ a) (ha1 : a < 18446744073709551616) (hb0 : 0 ≤ b) (hb1 : b < 18446744073709551616) :
    bits_Mul64.f a b = some (a * b / 18446744073709551616, a * b % 18446744073709551616) := by
  obtain ⟨p, q, r, s, hp, hq, hr, hs, he, b1⟩ := mul_parts ha0 ha1 hb0 hb1
  unfold bits_Mul64.f
  rw [mask32 ha0 ha1, mask32 hb0 hb1, hp, hq, hr, hs, he]
  simp only [IntKind.wrap_u64]
  rw [mask32 (by omega) (by omega)]
  congr 2 <;> omega

/-- How one number compares to another. -/
def cmpI (x y : Int) : Int := if x < y then -1 else if x = y then 0 else 1
/-- A number of 128 bits, its side first. -/
theorem side_is (a : Int) (h0 : -9223372036854775808 ≤ a) (h1 : a ≤ 9223372036854775807) : num_side.f a = some (a.natAbs : Int) := by
  unfold num_side.f
  simp only [IntKind.wrap_u64]
  split <;> (congr 1; omega)
theorem natAbs_mul_i (a b : Int) : (a.natAbs : Int) * (b.natAbs : Int) = ((a * b).natAbs : Int) := by
  rw [Int.natAbs_mul]; simp
theorem natAbs_bd (a b : Int) (ha0 : -9223372036854775808 ≤ a) (ha1 : a ≤ 9223372036854775807) (hb0 : -9223372036854775808 ≤ b) (hb1 : b ≤ 9223372036854775807) : ((a * b).natAbs : Int) ≤ 85070591730234615865843651857942052864 := by
  have := mul_bd (x := a) (y := b) 9223372036854775808 9223372036854775808 (by omega) (by omega) (by omega) (by omega)
  omega
theorem neg_mul_iff (a b : Int) : (a * b < 0) ↔ ((decide (a < 0)) != (decide (b < 0))) = true ∧ a * b ≠ 0 := by
  rcases Int.lt_trichotomy a 0 with h | h | h <;> rcases Int.lt_trichotomy b 0 with g | g | g
  · have := Int.mul_pos_of_neg_of_neg h g
    simp [h, g]; omega
  · subst g; simp
  · have := Int.mul_neg_of_neg_of_pos h g
    have hb : ¬ b < 0 := by omega
    simp [h, hb]; omega
  · subst h; simp
  · subst h; simp
  · subst h; simp
  · have := Int.mul_neg_of_pos_of_neg h g
    have ha : ¬ a < 0 := by omega
    simp [g, ha]; omega
  · subst g; simp
  · have := Int.mul_pos h g
    have ha : ¬ a < 0 := by omega
    have hb : ¬ b < 0 := by omega
    simp [ha, hb]; omega
theorem product_is (a b : Int) (ha0 : -9223372036854775808 ≤ a) (ha1 : a ≤ 9223372036854775807) (hb0 : -9223372036854775808 ≤ b) (hb1 : b ≤ 9223372036854775807) :
    num_product.f a b = some (decide (a * b < 0), ((a * b).natAbs : Int) / 18446744073709551616, ((a * b).natAbs : Int) % 18446744073709551616) := by
  have hbd := natAbs_bd a b ha0 ha1 hb0 hb1
  unfold num_product.f
  rw [side_is a ha0 ha1, side_is b hb0 hb1]
  simp only [Option.bind_some]
  rw [mul64_is _ _ (by omega) (by omega) (by omega) (by omega), natAbs_mul_i]
  simp only [Option.bind_some]
  have hn := neg_mul_iff a b
  split
  · rename_i h
    congr 2
    rw [decide_eq_decide]
    rw [bits_or_pos (by omega) (by omega) (by omega) (by omega), hn]
    constructor
    · intro g; exact ⟨h, by omega⟩
    · intro g; have := g.2; omega
  · rename_i h
    congr 2
    have : ¬ a * b < 0 := fun g => h (hn.1 g).1
    simp [this]

def fits (x : Int) : Prop := -9223372036854775808 ≤ x ∧ x ≤ 9223372036854775807
instance (x : Int) : Decidable (fits x) := by unfold fits; infer_instance
/-- A number, if 64 bits hold it. -/
def held64 (x : Int) : Int × Bool := if fits x then (x, true) else (0, false)
theorem held64_in {x : Int} (h0 : -9223372036854775808 ≤ x) (h1 : x ≤ 9223372036854775807) : held64 x = (x, true) := by
  unfold held64; rw [if_pos (show fits x from ⟨h0, h1⟩)]
theorem held64_out {x : Int} (h : x < -9223372036854775808 ∨ 9223372036854775807 < x) : held64 x = (0, false) := by
  unfold held64; rw [if_neg (by unfold fits; omega)]

/-! The division of two halves by one, digit by digit: plain numbers. -/
theorem dg_test {U D Y1 Y0 q r : Int} (hq : q * Y1 + r = U) : (4294967296 * r + D < q * Y0) ↔ (U * 4294967296 + D < q * (Y1 * 4294967296 + Y0)) := by
  have e : q * (Y1 * 4294967296 + Y0) = q * Y1 * 4294967296 + q * Y0 := by grind
  rw [e]
  omega
/-- The digit that is sought. -/
structure Dg (U D Y1 Y0 Q : Int) : Prop where
  y1 : 2147483648 ≤ Y1
  y1' : Y1 < 4294967296
  y0 : 0 ≤ Y0
  y0' : Y0 < 4294967296
  u : 0 ≤ U
  u' : U < Y1 * 4294967296 + Y0
  d : 0 ≤ D
  d' : D < 4294967296
  lo : Q * (Y1 * 4294967296 + Y0) ≤ U * 4294967296 + D
  hi : U * 4294967296 + D < (Q + 1) * (Y1 * 4294967296 + Y0)
theorem Dg.nonneg {U D Y1 Y0 Q : Int} (h : Dg U D Y1 Y0 Q) : 0 ≤ Q := by
  have ⟨a, b, c, d, e, f, g, i, lo, hi⟩ := h
  by_cases k : 0 ≤ Q
  · exact k
  · have := Int.mul_nonneg (show 0 ≤ -(Q + 1) by omega) (show 0 ≤ Y1 * 4294967296 + Y0 by omega)
    rw [Int.neg_mul] at this
    omega
theorem Dg.small {U D Y1 Y0 Q : Int} (h : Dg U D Y1 Y0 Q) : Q < 4294967296 := by
  have ⟨a, b, c, d, e, f, g, i, lo, hi⟩ := h
  by_cases k : Q < 4294967296
  · exact k
  · have := Int.mul_le_mul_of_nonneg_right (show 4294967296 ≤ Q by omega) (show 0 ≤ Y1 * 4294967296 + Y0 by omega)
    omega
/-- The first guess is none too small. -/
theorem Dg.first {U D Y1 Y0 Q : Int} (h : Dg U D Y1 Y0 Q) : Q ≤ U / Y1 := by
  have ⟨a, b, c, d, e, f, g, i, lo, hi⟩ := h
  have n := h.nonneg
  have e1 : Q * (Y1 * 4294967296 + Y0) = Q * Y1 * 4294967296 + Q * Y0 := by grind
  have e2 := Int.mul_nonneg n c
  rw [e1] at lo
  rw [Int.le_ediv_iff_mul_le (by omega)]
  omega
theorem Dg.first_le {U D Y1 Y0 Q : Int} (h : Dg U D Y1 Y0 Q) : U / Y1 ≤ 4294967297 := by
  have ⟨a, b, c, d, e, f, g, i, lo, hi⟩ := h
  have : U / Y1 < 4294967298 := by
    rw [Int.ediv_lt_iff_lt_mul (by omega)]
    omega
  omega
/-- Where the test says yes the digit is a lesser one. -/
theorem Dg.go {U D Y1 Y0 Q q r : Int} (h : Dg U D Y1 Y0 Q) (hq : q * Y1 + r = U) (ht : 4294967296 ≤ q ∨ 4294967296 * r + D < q * Y0) : Q ≤ q - 1 := by
  rcases ht with ht | ht
  · have := h.small; omega
  · rw [dg_test hq] at ht
    have := Int.lt_of_le_of_lt h.lo ht
    have := Int.lt_of_mul_lt_mul_right this (by have ⟨a, b, c, d, e, f, g, i, lo, hi⟩ := h; omega)
    omega
/-- Where it says no it is found. -/
theorem Dg.done {U D Y1 Y0 Q q r : Int} (h : Dg U D Y1 Y0 Q) (hq : q * Y1 + r = U) (hle : Q ≤ q) (ht : ¬ 4294967296 * r + D < q * Y0) : q = Q := by
  rw [dg_test hq] at ht
  have := Int.lt_of_le_of_lt (show q * (Y1 * 4294967296 + Y0) ≤ U * 4294967296 + D by omega) h.hi
  have := Int.lt_of_mul_lt_mul_right this (by have ⟨a, b, c, d, e, f, g, i, lo, hi⟩ := h; omega)
  omega
/-- Where what is left has grown beyond a digit it is found, too. -/
theorem Dg.brk {U D Y1 Y0 Q q r : Int} (h : Dg U D Y1 Y0 Q) (hq : q * Y1 + r = U) (hle : Q ≤ q) (hr : 4294967296 ≤ r) (hq2 : q ≤ 4294967296) : q = Q := by
  refine h.done hq hle ?_
  have ⟨a, b, c, d, e, f, g, i, lo, hi⟩ := h
  have n := h.nonneg
  have := mul_bd0 (x := q) (y := Y0) 4294967296 4294967295 (by omega) hq2 c (by omega)
  omega
theorem dg_of {U D Y1 Y0 : Int} (h1 : 2147483648 ≤ Y1) (h2 : Y1 < 4294967296) (h3 : 0 ≤ Y0) (h4 : Y0 < 4294967296) (h5 : 0 ≤ U) (h6 : U < Y1 * 4294967296 + Y0) (h7 : 0 ≤ D) (h8 : D < 4294967296) :
    Dg U D Y1 Y0 ((U * 4294967296 + D) / (Y1 * 4294967296 + Y0)) := by
  generalize hA : U * 4294967296 + D = A
  generalize hY : Y1 * 4294967296 + Y0 = Y
  have m := Int.emod_nonneg A (show Y ≠ 0 by omega)
  have l := Int.emod_lt_of_pos A (show 0 < Y by omega)
  have e := Int.mul_ediv_add_emod A Y
  have e2 : (A / Y + 1) * Y = Y * (A / Y) + Y := by rw [Int.add_mul, Int.one_mul, Int.mul_comm]
  have e3 : A / Y * Y = Y * (A / Y) := Int.mul_comm _ _
  exact ⟨h1, h2, h3, h4, h5, by omega, h7, h8, by rw [hA, hY, e3]; omega, by rw [hA, hY, e2]; omega⟩
/-- What is left of two halves, one digit taken. -/
theorem dg_left {U D Y : Int} (hY : 0 < Y) (h2 : Y < 18446744073709551616) :
    IntKind.u64.wrap (IntKind.u64.wrap (IntKind.u64.wrap (U * 4294967296) + D) - IntKind.u64.wrap ((U * 4294967296 + D) / Y * Y)) = (U * 4294967296 + D) % Y := by
  have m := Int.emod_nonneg (U * 4294967296 + D) (show Y ≠ 0 by omega)
  have l := Int.emod_lt_of_pos (U * 4294967296 + D) hY
  have e := Int.mul_ediv_add_emod (U * 4294967296 + D) Y
  have e3 : (U * 4294967296 + D) / Y * Y = Y * ((U * 4294967296 + D) / Y) := Int.mul_comm _ _
  rw [e3]
  simp only [IntKind.wrap_u64]
  omega
/-- Two digits, one behind the other. -/
theorem dg_two {U L1 L0 Y : Int} (hY : 0 < Y) :
    ((U * 18446744073709551616 + (L1 * 4294967296 + L0)) / Y = (U * 4294967296 + L1) / Y * 4294967296 + ((U * 4294967296 + L1) % Y * 4294967296 + L0) / Y) ∧
    ((U * 18446744073709551616 + (L1 * 4294967296 + L0)) % Y = ((U * 4294967296 + L1) % Y * 4294967296 + L0) % Y) := by
  have e := Int.mul_ediv_add_emod (U * 4294967296 + L1) Y
  generalize (U * 4294967296 + L1) / Y = q at *
  generalize (U * 4294967296 + L1) % Y = r at *
  have f : U * 18446744073709551616 + (L1 * 4294967296 + L0) = Y * (q * 4294967296) + (r * 4294967296 + L0) := by grind
  rw [f]
  constructor
  · rw [Int.mul_add_ediv_left _ _ (by omega)]
  · rw [Int.mul_add_emod_self_left]

/-! The two halves, shifted so far that the divisor's first bit is set. -/
theorem bitLen_bounds : ∀ (f x : Nat), x < 2 ^ f → 0 < x → 1 ≤ Lib.bitLenAux f x ∧ Lib.bitLenAux f x ≤ f ∧ 2 ^ (Lib.bitLenAux f x - 1) ≤ x ∧ x < 2 ^ (Lib.bitLenAux f x)
  | 0, x, h, h0 => by simp at h; omega
  | f + 1, x, h, h0 => by
    unfold Lib.bitLenAux
    rw [if_neg (by omega)]
    by_cases h1 : x / 2 = 0
    · have hx : x = 1 := by omega
      subst hx
      have : Lib.bitLenAux f (1 / 2) = 0 := by cases f <;> simp [Lib.bitLenAux]
      rw [this]
      simp
    · have ⟨a, b, c, d⟩ := bitLen_bounds f (x / 2) (by rw [Nat.pow_succ] at h; omega) (by omega)
      generalize Lib.bitLenAux f (x / 2) = n at *
      refine ⟨by omega, by omega, ?_, ?_⟩
      · rw [show 1 + n - 1 = (n - 1) + 1 by omega, Nat.pow_succ]; omega
      · rw [show 1 + n = n + 1 by omega, Nat.pow_succ]; omega
theorem bitLen_of (y : Int) (h0 : 0 < y) (h1 : y < 18446744073709551616) : 1 ≤ Lib.bitLen y.toNat ∧ Lib.bitLen y.toNat ≤ 64 ∧ (2 : Int) ^ (Lib.bitLen y.toNat - 1) ≤ y ∧ y < (2 : Int) ^ (Lib.bitLen y.toNat) := by
  have ⟨a, b, c, d⟩ := bitLen_bounds 64 y.toNat (by omega) (by omega)
  refine ⟨a, b, ?_, ?_⟩
  · have : ((2 ^ (Lib.bitLen y.toNat - 1) : Nat) : Int) ≤ (y.toNat : Int) := by exact_mod_cast c
    rw [Int.toNat_of_nonneg (by omega)] at this
    simpa using this
  · have : (y.toNat : Int) < ((2 ^ (Lib.bitLen y.toNat) : Nat) : Int) := by exact_mod_cast d
    rw [Int.toNat_of_nonneg (by omega)] at this
    simpa using this
/-- What the shifts by s leave. -/
theorem norm_of (hi lo y : Int) (n : Nat) (h0 : 0 ≤ lo) (h1 : lo < 18446744073709551616) (h2 : 0 < hi) (h3 : hi < y) (hn1 : 1 ≤ n) (hn2 : n ≤ 64) (hy1 : (2 : Int) ^ (n - 1) ≤ y) (hy2 : y < (2 : Int) ^ n) :
    IntKind.u64.wrap (y * 2 ^ (64 - n)) = y * 2 ^ (64 - n) ∧ 9223372036854775808 ≤ y * 2 ^ (64 - n) ∧ y * 2 ^ (64 - n) < 18446744073709551616 ∧
    (∃ U, Go.bits .or .u64 (IntKind.u64.wrap (hi * 2 ^ (64 - n))) (lo / 2 ^ (64 - (64 - n))) = U ∧ 0 ≤ U ∧ U < y * 2 ^ (64 - n) ∧ U * 18446744073709551616 + IntKind.u64.wrap (lo * 2 ^ (64 - n)) = (hi * 18446744073709551616 + lo) * 2 ^ (64 - n)) := by
  obtain ⟨s, rfl, hs⟩ : ∃ s, n = 64 - s ∧ s ≤ 63 := ⟨64 - n, by omega, by omega⟩
  rw [show 64 - (64 - s) = s by omega]
  have hpos : (0 : Int) < 2 ^ s := Int.pow_pos (by decide)
  have hpos2 : (0 : Int) < 2 ^ (64 - s) := Int.pow_pos (by decide)
  have hmul : (2 : Int) ^ (64 - s) * 2 ^ s = 18446744073709551616 := by rw [← Int.pow_add, show 64 - s + s = 64 by omega]; rfl
  have hmul2 : (2 : Int) ^ (64 - s - 1) * 2 ^ s = 9223372036854775808 := by rw [← Int.pow_add, show 64 - s - 1 + s = 63 by omega]; rfl
  have ha : 9223372036854775808 ≤ y * 2 ^ s := by rw [← hmul2]; exact Int.mul_le_mul_of_nonneg_right hy1 (by omega)
  have hb : y * 2 ^ s < 18446744073709551616 := by rw [← hmul]; exact Int.mul_lt_mul_of_pos_right hy2 hpos
  have hc : (hi + 1) * 2 ^ s ≤ y * 2 ^ s := Int.mul_le_mul_of_nonneg_right (by omega) (by omega)
  have hc' : (hi + 1) * 2 ^ s = hi * 2 ^ s + 2 ^ s := by rw [Int.add_mul, Int.one_mul]
  have hh0 : 0 ≤ hi * 2 ^ s := Int.mul_nonneg (by omega) (by omega)
  have hd0 : 0 ≤ lo / 2 ^ (64 - s) := Int.ediv_nonneg h0 (by omega)
  have hd1 : lo / 2 ^ (64 - s) < 2 ^ s := by
    rw [Int.ediv_lt_iff_lt_mul hpos2, Int.mul_comm, hmul]; exact h1
  have hwrap : IntKind.u64.wrap (hi * 2 ^ s) = hi * 2 ^ s := wu64 (by omega) (by omega)
  refine ⟨wu64 (by omega) hb, ha, hb, hi * 2 ^ s + lo / 2 ^ (64 - s), ?_, by omega, by omega, ?_⟩
  · rw [hwrap]
    exact bits_join .u64 64 (by decide) (fun n h h' => by rw [IntKind.wrap_u64]; omega) s _ _ hh0 (Int.mul_emod_left _ _) (by omega) hd0 hd1 (by omega)
  · rw [IntKind.wrap_u64]
    have e1 : lo * 2 ^ s / 18446744073709551616 = lo / 2 ^ (64 - s) := by
      rw [← hmul, Int.mul_ediv_mul_of_pos_left _ _ hpos]
    have e2 := Int.mul_ediv_add_emod (lo * 2 ^ s) 18446744073709551616
    rw [e1] at e2
    have e3 : (hi * 18446744073709551616 + lo) * 2 ^ s = hi * 2 ^ s * 18446744073709551616 + lo * 2 ^ s := by grind
    rw [e3]
    omega
theorem unscale (X y : Int) (s : Nat) (hy : 0 < y) : (X * 2 ^ s) / (y * 2 ^ s) = X / y ∧ (X * 2 ^ s) % (y * 2 ^ s) / 2 ^ s = X % y := by
  have hpos : (0 : Int) < 2 ^ s := Int.pow_pos (by decide)
  constructor
  · exact Int.mul_ediv_mul_of_pos_left _ _ hpos
  · rw [Int.emod_def, Int.mul_ediv_mul_of_pos_left _ _ hpos, Int.emod_def, show X * 2 ^ s - y * 2 ^ s * (X / y) = (X - y * (X / y)) * 2 ^ s by grind, Int.mul_ediv_cancel _ (by omega)]

set_option maxHeartbeats 2000000
theorem div64_low (lo y : Int) (W : World) (h0 : 0 ≤ lo) (h1 : lo < 18446744073709551616) (h2 : 0 < y) (h3 : y < 18446744073709551616) :
    Calls Tryd.prog 32 #[.int .u64 0, .int .u64 lo, .int .u64 y] W fun e w' => e = .returned (.tuple #[.int .u64 (lo / y), .int .u64 (lo % y)]) ∧ Below W.heap.size W w' := by
  have HB := Aside0.mk (Below.refl W.heap.size W)
  go_enter Tryd.func32, Tryd.ntmps32
  go_wp2
  go_quiet (fail)
  go_wp2
  go_ret2
  exact ⟨rfl, (by repeat (first | (with_reducible first | exact HB.out | apply below_alloc | apply pw_below_drewN | apply below_drew1) | exact HB.out))⟩
theorem div64_high (hi lo y : Int) (n : Nat) (W : World) (h0 : 0 ≤ lo) (h1 : lo < 18446744073709551616) (h2 : 0 < hi) (h3 : hi < y) (h4 : y < 18446744073709551616) (hs : 1 ≤ n) (hs2 : n ≤ 64) (hn : Lib.bitLen y.toNat = n) :
    Calls Tryd.prog 32 #[.int .u64 hi, .int .u64 lo, .int .u64 y] W fun e w' => e = .returned (.tuple #[.int .u64 ((hi * 18446744073709551616 + lo) / y), .int .u64 ((hi * 18446744073709551616 + lo) % y)]) ∧ Below W.heap.size W w' := by
  have HB := Aside0.mk (Below.refl W.heap.size W)
  have cL : ∀ W, Calls Tryd.prog 42 #[.int .u64 y] W fun e w' => e = .returned (.int .i64 (64 - (n : Int))) ∧ W = w' := fun W => by
    have := Tryd.bits_LeadingZeros64 y W (by omega) (by omega); rw [hn] at this; exact this.mono fun e w' ⟨a, b⟩ => ⟨a, b.symm⟩
  have CL := Aside0.mk cL
  have hb := bitLen_of y (by omega) h4
  rw [hn] at hb
  have hN := norm_of hi lo y n h0 h1 h2 h3 hs hs2 hb.2.2.1 hb.2.2.2
  have hU := unscale (hi * 18446744073709551616 + lo) y (64 - n) (by omega)
  obtain ⟨hw1, hw2, hw3, U, hor, hu0, hu1, hall⟩ := hN
  have HW := Aside0.mk hw1
  have HO := Aside0.mk hor
  have HA := Aside0.mk hall
  have HU := Aside0.mk hU
  have H2 := Aside0.mk hw2
  have H3 := Aside0.mk hw3
  have H4 := Aside0.mk hu1
  have hz : 0 < IntKind.u64.wrap (y * 2 ^ (64 - n)) / 4294967296 := by rw [hw1]; omega
  clear cL hb hw1 hor hall hU hw2 hw3 hu1 hn
  go_enter Tryd.func32, Tryd.ntmps32
  go_upto_block 0 with (go_at_call 42; (with_reducible refine (CL.out _).mono ?_); rintro e w7 ⟨rfl, rfl⟩)
  rw [HW.out, HO.out]
  have h2 := H2.out; have h3' := H3.out; have h4' := H4.out; have ha := HA.out; have hu := HU.out
  clear HW HO H2 H3 H4 HA HU CL hz
  generalize hL : IntKind.u64.wrap (lo * 2 ^ (64 - n)) = L at *
  have hL0 : 0 ≤ L ∧ L < 18446744073709551616 := by rw [← hL, IntKind.wrap_u64]; omega
  generalize (hi * 18446744073709551616 + lo) * 2 ^ (64 - n) = X at *
  have hy0 : 0 < y := by omega
  generalize y * 2 ^ (64 - n) = Y at *
  rw [mask32 (x := Y) (by omega) (by omega), mask32 (x := L) (by omega) (by omega)]
  obtain ⟨Y1, hY1⟩ : ∃ Y1, Y / 4294967296 = Y1 := ⟨_, rfl⟩
  obtain ⟨Y0, hY0⟩ : ∃ Y0, Y % 4294967296 = Y0 := ⟨_, rfl⟩
  obtain ⟨L1, hL1⟩ : ∃ L1, L / 4294967296 = L1 := ⟨_, rfl⟩
  obtain ⟨L0, hL2⟩ : ∃ L0, L % 4294967296 = L0 := ⟨_, rfl⟩
  rw [hY1, hY0, hL1, hL2]
  have hYe : Y = Y1 * 4294967296 + Y0 := by omega
  have hLe : L = L1 * 4294967296 + L0 := by omega
  have D1 := dg_of (U := U) (D := L1) (Y1 := Y1) (Y0 := Y0) (by omega) (by omega) (by omega) (by omega) (by omega) (by omega) (by omega) (by omega)
  rw [← hYe] at D1
  have hq0 : 0 ≤ U / Y1 := Int.ediv_nonneg hu0 (by omega)
  have hq1 := D1.first_le
  have hqe := Int.mul_ediv_add_emod U Y1
  have hqm := Int.emod_nonneg U (show Y1 ≠ 0 by omega)
  have hql := Int.emod_lt_of_pos U (show 0 < Y1 by omega)
  have hqp := Int.mul_nonneg (show 0 ≤ Y1 by omega) hq0
  have e1 : IntKind.u64.wrap (U.tdiv Y1) = U / Y1 := by
    rw [Int.tdiv_eq_ediv_of_nonneg hu0]; exact wu64 (by omega) (by omega)
  have e2 : IntKind.u64.wrap (U - IntKind.u64.wrap (U / Y1 * Y1)) = U % Y1 := by
    have : U / Y1 * Y1 = Y1 * (U / Y1) := Int.mul_comm _ _
    rw [this, wu64 (x := Y1 * (U / Y1)) (by omega) (by omega), wu64 (by omega) (by omega)]; omega
  rw [e1, e2]
  clear e1 e2
  have T := dg_two (U := U) (L1 := L1) (L0 := L0) (Y := Y) (by omega)
  have V := dg_left (U := U) (D := L1) (Y := Y) (by omega) h3'
  have vm := Int.emod_nonneg (U * 4294967296 + L1) (show Y ≠ 0 by omega)
  have vl := Int.emod_lt_of_pos (U * 4294967296 + L1) (show 0 < Y by omega)
  rw [← hLe, ha, hu.1] at T
  have hQe : ∀ Q, U / Y1 = Q → Q * Y1 + U % Y1 = U := fun Q h => by rw [← h, Int.mul_comm]; exact hqe
  have hF := D1.first
  obtain ⟨Q1, hQ1⟩ : ∃ Q1, (U * 4294967296 + L1) / Y = Q1 := ⟨_, rfl⟩
  rw [hQ1] at D1 T V hF
  obtain ⟨V1, hV1⟩ : ∃ V1, (U * 4294967296 + L1) % Y = V1 := ⟨_, rfl⟩
  rw [hV1] at T V vm vl
  have HR := Aside0.mk hu.2
  have HT := Aside0.mk T
  have HV := Aside0.mk V
  have HD := Aside0.mk D1
  have HE := Aside0.mk (hQe _ rfl)
  have HY := Aside0.mk hYe
  have HL := Aside0.mk hLe
  have r1 : 2147483648 ≤ Y1 := D1.y1
  have r2 : Y1 < 4294967296 := D1.y1'
  have r3 : 0 ≤ Y0 := D1.y0
  have r4 : Y0 < 4294967296 := D1.y0'
  have r5 : 0 ≤ L1 := D1.d
  have r6 : L1 < 4294967296 := D1.d'
  have r7 : 0 ≤ L0 ∧ L0 < 4294967296 := by omega
  obtain ⟨r7, r8⟩ := r7
  obtain ⟨A0, hA0⟩ : ∃ A0, U / Y1 = A0 := ⟨_, rfl⟩
  obtain ⟨B0, hB0⟩ : ∃ B0, U % Y1 = B0 := ⟨_, rfl⟩
  rw [hA0, hB0] at HE
  rw [hA0] at hF hq0 hq1
  rw [hB0] at hqm hql
  rw [hA0, hB0]
  clear hL hL0 ha hu hY1 hY0 hL1 hL2 hYe hLe D1 hqe hqp T V hQe hQ1 hV1 hA0 hB0
  go_cut [15] (fun q wx => q = .int .u64 Q1 ∧ W = wx)
  case first =>
    go_wp2
    go_loop [15, 16] (fun q r => ∃ a b : Int, q = .int .u64 a ∧ r = .int .u64 b ∧ Aside0 (a * Y1 + b = U) ∧ Q1 ≤ a ∧ 0 ≤ a ∧ a ≤ 4294967297 ∧ 0 ≤ b ∧ b < 4294967296) (fun q _ => (intOf q).toNat)
    case atStart => exact ⟨A0, B0, rfl, rfl, HE, hF, hq0, hq1, hqm, by omega⟩
    case round =>
      obtain ⟨a, b, rfl, rfl, hI, i1, i2, i3, i4, i5⟩ := hrel
      have q0 := HD.out.nonneg
      by_cases c1 : 4294967296 ≤ a
      · have g := HD.out.go hI.out (Or.inl c1)
        have I2 : Aside0 ((a - 1) * Y1 + (b + Y1) = U) := ⟨by have := hI.out; rw [Int.sub_mul]; omega⟩
        by_cases c3 : 4294967296 ≤ b + Y1
        · have e := HD.out.brk I2.out g c3 (by omega)
          have E := Aside0.mk e
          clear e
          go_wp2_with fail
          go_meet
          case rel => rw [E.out]; exact ⟨rfl, rfl⟩
        · go_wp2
          go_round
          case rel => exact ⟨a - 1, b + Y1, rfl, rfl, I2, g, by omega, by omega, by omega, by omega⟩
          case measure => simp [intOf]; omega
      · have m1 := mul_bd0 (x := a) (y := Y0) 4294967295 4294967295 (by omega) (by omega) r3 (by omega)
        obtain ⟨m1, m2⟩ := m1
        by_cases c2 : 4294967296 * b + L1 < a * Y0
        · have g := HD.out.go hI.out (Or.inr c2)
          have I2 : Aside0 ((a - 1) * Y1 + (b + Y1) = U) := ⟨by have := hI.out; rw [Int.sub_mul]; omega⟩
          by_cases c3 : 4294967296 ≤ b + Y1
          · have e := HD.out.brk I2.out g c3 (by omega)
            have E := Aside0.mk e
            clear e
            go_wp2_with fail
            go_meet
            case rel => rw [E.out]; exact ⟨rfl, rfl⟩
          · go_wp2
            go_round
            case rel => exact ⟨a - 1, b + Y1, rfl, rfl, I2, g, by omega, by omega, by omega, by omega⟩
            case measure => simp [intOf]; omega
        · have e := HD.out.done hI.out i1 c2
          have E := Aside0.mk e
          clear e
          go_wp2_with fail
          go_meet
          case rel => rw [E.out]; exact ⟨rfl, rfl⟩
  case rest =>
    obtain ⟨rfl, rfl⟩ := hcut
    go_upto_block 2 with fail
    rw [HV.out]
    have D2 := dg_of (U := V1) (D := L0) (Y1 := Y1) (Y0 := Y0) r1 r2 r3 r4 vm (by rw [← HY.out]; exact vl) r7 r8
    rw [← HY.out] at D2
    have hp0 : 0 ≤ V1 / Y1 := Int.ediv_nonneg vm (by omega)
    have hp1 := D2.first_le
    have hpe := Int.mul_ediv_add_emod V1 Y1
    have hpm := Int.emod_nonneg V1 (show Y1 ≠ 0 by omega)
    have hpl := Int.emod_lt_of_pos V1 (show 0 < Y1 by omega)
    have hpp := Int.mul_nonneg (show 0 ≤ Y1 by omega) hp0
    have e1 : IntKind.u64.wrap (V1.tdiv Y1) = V1 / Y1 := by
      rw [Int.tdiv_eq_ediv_of_nonneg vm]; exact wu64 (by omega) (by omega)
    have e2 : IntKind.u64.wrap (V1 - IntKind.u64.wrap (V1 / Y1 * Y1)) = V1 % Y1 := by
      have : V1 / Y1 * Y1 = Y1 * (V1 / Y1) := Int.mul_comm _ _
      rw [this, wu64 (x := Y1 * (V1 / Y1)) (by omega) (by omega), wu64 (by omega) (by omega)]; omega
    rw [e1, e2]
    clear e1 e2
    have V2 := dg_left (U := V1) (D := L0) (Y := Y) (by omega) h3'
    have hPe : ∀ Q, V1 / Y1 = Q → Q * Y1 + V1 % Y1 = V1 := fun Q h => by rw [← h, Int.mul_comm]; exact hpe
    have hF2 := D2.first
    obtain ⟨T1, T2⟩ := HT.out
    obtain ⟨Q0, hQ0⟩ : ∃ Q0, (V1 * 4294967296 + L0) / Y = Q0 := ⟨_, rfl⟩
    rw [hQ0] at D2 T1 V2 hF2
    have HV2 := Aside0.mk V2
    have HD2 := Aside0.mk D2
    have HE2 := Aside0.mk (hPe _ rfl)
    obtain ⟨A1, hA1⟩ : ∃ A0, V1 / Y1 = A0 := ⟨_, rfl⟩
    obtain ⟨B1, hB1⟩ : ∃ B0, V1 % Y1 = B0 := ⟨_, rfl⟩
    rw [hA1, hB1] at HE2
    rw [hA1] at hF2 hp0 hp1
    rw [hB1] at hpm hpl
    rw [hA1, hB1]
    have q1s := HD.out.small
    have q1n := HD.out.nonneg
    have q0s := D2.small
    have q0n := D2.nonneg
    have HT1 := Aside0.mk T1
    have HT2 := Aside0.mk T2
    clear HT D2 hpe hpp V2 hPe hQ0 hA1 hB1 T1 T2
    go_cut [18] (fun q wx => q = .int .u64 Q0 ∧ W = wx)
    case first =>
      go_wp2
      go_loop [18, 16] (fun q r => ∃ a b : Int, q = .int .u64 a ∧ r = .int .u64 b ∧ Aside0 (a * Y1 + b = V1) ∧ Q0 ≤ a ∧ 0 ≤ a ∧ a ≤ 4294967297 ∧ 0 ≤ b ∧ b < 4294967296) (fun q _ => (intOf q).toNat)
      case atStart => exact ⟨A1, B1, rfl, rfl, HE2, hF2, hp0, hp1, hpm, by omega⟩
      case round =>
        obtain ⟨a, b, rfl, rfl, hI, i1, i2, i3, i4, i5⟩ := hrel
        have q0 := HD2.out.nonneg
        by_cases c1 : 4294967296 ≤ a
        · have g := HD2.out.go hI.out (Or.inl c1)
          have I2 : Aside0 ((a - 1) * Y1 + (b + Y1) = V1) := ⟨by have := hI.out; rw [Int.sub_mul]; omega⟩
          by_cases c3 : 4294967296 ≤ b + Y1
          · have e := HD2.out.brk I2.out g c3 (by omega)
            have E := Aside0.mk e
            clear e
            go_wp2_with fail
            go_meet
            case rel => rw [E.out]; exact ⟨rfl, rfl⟩
          · go_wp2
            go_round
            case rel => exact ⟨a - 1, b + Y1, rfl, rfl, I2, g, by omega, by omega, by omega, by omega⟩
            case measure => simp [intOf]; omega
        · have m1 := mul_bd0 (x := a) (y := Y0) 4294967295 4294967295 (by omega) (by omega) r3 (by omega)
          obtain ⟨m1, m2⟩ := m1
          by_cases c2 : 4294967296 * b + L0 < a * Y0
          · have g := HD2.out.go hI.out (Or.inr c2)
            have I2 : Aside0 ((a - 1) * Y1 + (b + Y1) = V1) := ⟨by have := hI.out; rw [Int.sub_mul]; omega⟩
            by_cases c3 : 4294967296 ≤ b + Y1
            · have e := HD2.out.brk I2.out g c3 (by omega)
              have E := Aside0.mk e
              clear e
              go_wp2_with fail
              go_meet
              case rel => rw [E.out]; exact ⟨rfl, rfl⟩
            · go_wp2
              go_round
              case rel => exact ⟨a - 1, b + Y1, rfl, rfl, I2, g, by omega, by omega, by omega, by omega⟩
              case measure => simp [intOf]; omega
          · have e := HD2.out.done hI.out i1 c2
            have E := Aside0.mk e
            clear e
            go_wp2_with fail
            go_meet
            case rel => rw [E.out]; exact ⟨rfl, rfl⟩
    case rest =>
      obtain ⟨rfl, rfl⟩ := hcut
      go_wp2
      rw [HV2.out, ← HT2.out, HR.out]
      go_ret2
      exact ⟨by rw [HT1.out]; rfl, (by repeat (first | (with_reducible first | exact HB.out | apply below_alloc | apply pw_below_drewN | apply below_drew1) | exact HB.out))⟩
theorem div64_any (hi lo y : Int) (W : World) (h0 : 0 ≤ lo) (h1 : lo < 18446744073709551616) (h2 : 0 ≤ hi) (h3 : hi < y) (h4 : y < 18446744073709551616) :
    Calls Tryd.prog 32 #[.int .u64 hi, .int .u64 lo, .int .u64 y] W fun e w' => e = .returned (.tuple #[.int .u64 ((hi * 18446744073709551616 + lo) / y), .int .u64 ((hi * 18446744073709551616 + lo) % y)]) ∧ Below W.heap.size W w' := by
  by_cases h : hi = 0
  · subst h
    have := div64_low lo y W h0 h1 (by omega) h4
    rw [Int.zero_mul, Int.zero_add]
    exact this
  · have hb := bitLen_of y (by omega) h4
    exact div64_high hi lo y _ W h0 h1 (by omega) h3 h4 hb.1 hb.2.1 rfl

theorem drawn_below {P : Prop} {w w' : World} (h : P ∧ Drawn0 w w') : P ∧ Below w.heap.size w w' := ⟨h.1, h.2.below⟩
theorem divided_yes (a b c H L : Int) (bl : Bool) (W : World) (hp : ∀ W, Calls Tryd.prog 31 #[.int .i64 a, .int .i64 b] W fun e w' => e = .returned (.agg #[.bool bl, .int .u64 H, .int .u64 L]) ∧ Below W.heap.size W w')
    (h1 : 0 ≤ H) (h2 : H < c) (h3 : 0 ≤ L) (h4 : L < 18446744073709551616) (h5 : c ≤ 9223372036854775807) :
    Calls Tryd.prog 26 #[.int .i64 a, .int .i64 b, .int .i64 c] W fun e w' => e = .returned (.tuple #[.int .u64 ((H * 18446744073709551616 + L) / c), .bool (decide (0 < (H * 18446744073709551616 + L) % c)), .bool bl, .bool true]) ∧ Below W.heap.size W w' := by
  have HB := Aside0.mk (Below.refl W.heap.size W)
  have HP := Aside0.mk hp
  clear hp
  go_enter Tryd.func26, Tryd.ntmps26
  go_wp2_with (first | (go_at_call 31; (with_reducible refine (HP.out _).mono ?_); rintro e w7 ⟨rfl, hb⟩; have n0_ := Aside0.mk (below_step (by repeat (first | (with_reducible first | exact HB.out | apply below_alloc | apply pw_below_drewN | apply below_drew1) | exact HB.out)) hb); clear HB; have HB := n0_; clear n0_ hb) | (go_at_call 32; (with_reducible refine (div64_any H L c _ h3 h4 h1 h2 (by omega)).mono ?_); rintro e w8 ⟨rfl, hb2⟩))
  have hc0 : w8.cell? ⟨w7.heap.size, 0, none⟩ = some (.bool bl) := (hb2.cell (p := ⟨w7.heap.size, 0, none⟩) (by simp)).trans (by simp [World.cell?_alloc_new])
  have n0_ := Aside0.mk (below_step (below_alloc HB.out _) hb2)
  clear HB
  have HB := n0_
  clear n0_ hb2
  have hm : 0 ≤ (H * 18446744073709551616 + L) % c := Int.emod_nonneg _ (by omega)
  go_quiet (fail)
  go_wp2
  refine bodyPost_ret (v := .tuple #[.int .u64 ((H * 18446744073709551616 + L) / c), .bool (decide (0 < (H * 18446744073709551616 + L) % c)), .bool bl, .bool true]) (by simp [results, Tryd.results26, go_sem]) rfl ⟨rfl, (by repeat (first | (with_reducible first | exact HB.out | apply below_alloc | apply pw_below_drewN | apply below_drew1) | exact HB.out))⟩
theorem divided_no (a b c H L : Int) (bl : Bool) (W : World) (hp : ∀ W, Calls Tryd.prog 31 #[.int .i64 a, .int .i64 b] W fun e w' => e = .returned (.agg #[.bool bl, .int .u64 H, .int .u64 L]) ∧ Below W.heap.size W w')
    (h1 : 0 ≤ H) (h2 : c < 1 ∨ 1 ≤ c ∧ c ≤ H) (h5 : c ≤ 9223372036854775807) :
    Calls Tryd.prog 26 #[.int .i64 a, .int .i64 b, .int .i64 c] W fun e w' => e = .returned (.tuple #[.int .u64 0, .bool false, .bool false, .bool false]) ∧ Below W.heap.size W w' := by
  have HB := Aside0.mk (Below.refl W.heap.size W)
  have HP := Aside0.mk hp
  clear hp
  rcases h2 with h2 | ⟨h2, h3⟩
  all_goals
    go_enter Tryd.func26, Tryd.ntmps26
    go_wp2_with (first | (go_at_call 31; (with_reducible refine (HP.out _).mono ?_); rintro e w7 ⟨rfl, hb⟩; have n0_ := Aside0.mk (below_step (by repeat (first | (with_reducible first | exact HB.out | apply below_alloc | apply pw_below_drewN | apply below_drew1) | exact HB.out)) hb); clear HB; have HB := n0_; clear n0_ hb))
    refine bodyPost_ret (v := .tuple #[.int .u64 0, .bool false, .bool false, .bool false]) (by simp [results, Tryd.results26, go_sem]) rfl ⟨rfl, (by repeat (first | (with_reducible first | exact HB.out | apply below_alloc | apply pw_below_drewN | apply below_drew1) | exact HB.out))⟩
/-- A quotient's size, whether something is left, whether it's below 0; whether there is one. -/
def divd (a b c : Int) : Int × Bool × Bool × Bool :=
  if c < 1 ∨ c ≤ ((a * b).natAbs : Int) / 18446744073709551616 then (0, false, false, false)
  else (((a * b).natAbs : Int) / c, decide (0 < ((a * b).natAbs : Int) % c), decide (a * b < 0), true)
theorem divided_any (a b c : Int) (W : World) (ha : -9223372036854775808 ≤ a ∧ a ≤ 9223372036854775807) (hb : -9223372036854775808 ≤ b ∧ b ≤ 9223372036854775807) (hc : c ≤ 9223372036854775807) :
    Calls Tryd.prog 26 #[.int .i64 a, .int .i64 b, .int .i64 c] W fun e w' => e = .returned (.tuple #[.int .u64 (divd a b c).1, .bool (divd a b c).2.1, .bool (divd a b c).2.2.1, .bool (divd a b c).2.2.2]) ∧ Below W.heap.size W w' := by
  have hP := natAbs_bd a b ha.1 ha.2 hb.1 hb.2
  have hp : ∀ W, Calls Tryd.prog 31 #[.int .i64 a, .int .i64 b] W fun e w' => e = .returned (.agg #[.bool (decide (a * b < 0)), .int .u64 (((a * b).natAbs : Int) / 18446744073709551616), .int .u64 (((a * b).natAbs : Int) % 18446744073709551616)]) ∧ Below W.heap.size W w' :=
    fun W => num_product.calls a b _ _ _ W (product_is a b ha.1 ha.2 hb.1 hb.2)
  unfold divd
  have hP0 : 0 ≤ ((a * b).natAbs : Int) := by omega
  generalize ((a * b).natAbs : Int) = P at *
  by_cases h : c < 1 ∨ c ≤ P / 18446744073709551616
  · rw [if_pos h]
    exact divided_no a b c _ _ _ W hp (by omega) (by omega) hc
  · rw [if_neg h]
    have := divided_yes a b c _ _ _ W hp (by omega) (by omega) (by omega) (by omega) hc
    rw [show P / 18446744073709551616 * 18446744073709551616 + P % 18446744073709551616 = P by omega] at this
    exact this
/-- What 64 bits hold of a size with a side. -/
theorem held_is (k : Nat) (bl : Bool) (u : Int) (h0 : 0 ≤ u) (h1 : u < 18446744073709551616) : num_held.f (k + 1) bl u = some (held64 (if bl = true then -u else u)) := by
  unfold num_held.f
  cases bl
  · simp only [Bool.false_eq_true, if_false, num_held.j0]
    by_cases h : u ≤ 9223372036854775807
    · rw [if_pos h, held64_in (by omega) h, w64 (by omega) h]
    · rw [if_neg h, held64_out (by omega)]
  · simp only [if_true, num_held.j0, decide_eq_true_eq]
    by_cases h : u ≤ 9223372036854775808
    · rw [if_pos h, held64_in (by omega) (by omega)]
      congr 2
      unfold wrap64; omega
    · rw [if_neg h, held64_out (by omega)]; first | done | rfl
theorem held_any (bl : Bool) (u : Int) (W : World) (h0 : 0 ≤ u) (h1 : u < 18446744073709551616) :
    Calls Tryd.prog 27 #[.bool bl, .int .u64 u] W fun e w' => e = .returned (.tuple #[.int .i64 (held64 (if bl = true then -u else u)).1, .bool (held64 (if bl = true then -u else u)).2]) ∧ Below W.heap.size W w' :=
  (num_held.calls 1 bl u _ _ W (held_is 0 bl u h0 h1)).mono fun _ _ h => drawn_below h
/-- a times b divided by c, down; up. -/
def shareI (a b c : Int) : Int × Bool := if c < 1 then (0, false) else held64 (a * b / c)
def upI (a b c : Int) : Int × Bool := if c < 1 then (0, false) else held64 (-(-(a * b) / c))
set_option maxRecDepth 100000
theorem share_walk (a b c q : Int) (rs bl ok : Bool) (W : World) (h0 : 0 ≤ q) (h1 : q < 18446744073709551616)
    (hd : ∀ W, Calls Tryd.prog 26 #[.int .i64 a, .int .i64 b, .int .i64 c] W fun e w' => e = .returned (.tuple #[.int .u64 q, .bool rs, .bool bl, .bool ok]) ∧ Below W.heap.size W w')
    (r : Int × Bool) (hr : r = if ok = false then (0, false) else held64 (if bl = true then -(if rs = true then q + 1 else q) else q)) :
    Calls Tryd.prog 19 #[.int .i64 a, .int .i64 b, .int .i64 c] W fun e w' => e = .returned (.tuple #[.int .i64 r.1, .bool r.2]) ∧ Below W.heap.size W w' := by
  have cD : ∀ W, Calls Tryd.prog 26 #[.int .i64 a, .int .i64 b, .int .i64 c] W fun e w' => e = .returned (.tuple #[.int .u64 q, .bool rs, .bool bl, .bool ok]) ∧ Below W.heap.size W w' := hd
  have CD := Aside0.mk cD
  clear cD hd
  have HB := Aside0.mk (Below.refl W.heap.size W)
  have HR := Aside0.mk hr
  clear hr
  cases ok
  · go_enter Tryd.func19, Tryd.ntmps19
    go_wp2_with (first | (go_at_call 26; (with_reducible refine (CD.out _).mono ?_); rintro e w7 ⟨rfl, hb⟩; have n0_ := Aside0.mk (below_step (by repeat (first | (with_reducible first | exact HB.out | apply below_alloc | apply pw_below_drewN | apply below_drew1) | exact HB.out)) hb); clear HB; have HB := n0_; clear n0_ hb))
    go_ret2
    exact ⟨by rw [HR.out]; rfl, (by repeat (first | (with_reducible first | exact HB.out | apply below_alloc | apply pw_below_drewN | apply below_drew1) | exact HB.out))⟩
  · cases bl
    · go_enter Tryd.func19, Tryd.ntmps19
      go_wp2_with (first | (go_at_call 26; (with_reducible refine (CD.out _).mono ?_); rintro e w7 ⟨rfl, hb⟩; have n0_ := Aside0.mk (below_step (by repeat (first | (with_reducible first | exact HB.out | apply below_alloc | apply pw_below_drewN | apply below_drew1) | exact HB.out)) hb); clear HB; have HB := n0_; clear n0_ hb) | (go_at_call 27; (with_reducible refine (held_any false q _ h0 h1).mono ?_); rintro e w7 ⟨rfl, hb⟩; have n0_ := Aside0.mk (below_step (by repeat (first | (with_reducible first | exact HB.out | apply below_alloc | apply pw_below_drewN | apply below_drew1) | exact HB.out)) hb); clear HB; have HB := n0_; clear n0_ hb))
      go_ret2
      exact ⟨by rw [HR.out]; rfl, (by repeat (first | (with_reducible first | exact HB.out | apply below_alloc | apply pw_below_drewN | apply below_drew1) | exact HB.out))⟩
    · cases rs
      · go_enter Tryd.func19, Tryd.ntmps19
        go_wp2_with (first | (go_at_call 26; (with_reducible refine (CD.out _).mono ?_); rintro e w7 ⟨rfl, hb⟩; have n0_ := Aside0.mk (below_step (by repeat (first | (with_reducible first | exact HB.out | apply below_alloc | apply pw_below_drewN | apply below_drew1) | exact HB.out)) hb); clear HB; have HB := n0_; clear n0_ hb) | (go_at_call 27; (with_reducible refine (held_any true q _ h0 h1).mono ?_); rintro e w7 ⟨rfl, hb⟩; have n0_ := Aside0.mk (below_step (by repeat (first | (with_reducible first | exact HB.out | apply below_alloc | apply pw_below_drewN | apply below_drew1) | exact HB.out)) hb); clear HB; have HB := n0_; clear n0_ hb))
        go_ret2
        exact ⟨by rw [HR.out]; rfl, (by repeat (first | (with_reducible first | exact HB.out | apply below_alloc | apply pw_below_drewN | apply below_drew1) | exact HB.out))⟩
      · by_cases hq : q = 18446744073709551615
        · have hqb : (q == 18446744073709551615) = true := beq_iff_eq.2 hq
          have HQ := Aside0.mk hq
          clear hq
          go_enter Tryd.func19, Tryd.ntmps19
          go_wp2_with (first | (go_at_call 26; (with_reducible refine (CD.out _).mono ?_); rintro e w7 ⟨rfl, hb⟩; have n0_ := Aside0.mk (below_step (by repeat (first | (with_reducible first | exact HB.out | apply below_alloc | apply pw_below_drewN | apply below_drew1) | exact HB.out)) hb); clear HB; have HB := n0_; clear n0_ hb))
          go_ret2
          exact ⟨by rw [HR.out, HQ.out]; rfl, (by repeat (first | (with_reducible first | exact HB.out | apply below_alloc | apply pw_below_drewN | apply below_drew1) | exact HB.out))⟩
        · have hqb : (q == 18446744073709551615) = false := beq_eq_false_iff_ne.2 hq
          have hq2 : q + 1 < 18446744073709551616 := by omega
          go_enter Tryd.func19, Tryd.ntmps19
          go_wp2_with (first | (go_at_call 26; (with_reducible refine (CD.out _).mono ?_); rintro e w7 ⟨rfl, hb⟩; have n0_ := Aside0.mk (below_step (by repeat (first | (with_reducible first | exact HB.out | apply below_alloc | apply pw_below_drewN | apply below_drew1) | exact HB.out)) hb); clear HB; have HB := n0_; clear n0_ hb) | (go_at_call 27; (with_reducible refine (held_any true (q + 1) _ (by omega) hq2).mono ?_); rintro e w7 ⟨rfl, hb⟩; have n0_ := Aside0.mk (below_step (by repeat (first | (with_reducible first | exact HB.out | apply below_alloc | apply pw_below_drewN | apply below_drew1) | exact HB.out)) hb); clear HB; have HB := n0_; clear n0_ hb))
          go_ret2
          exact ⟨by rw [HR.out]; rfl, (by repeat (first | (with_reducible first | exact HB.out | apply below_alloc | apply pw_below_drewN | apply below_drew1) | exact HB.out))⟩
theorem up_walk (a b c q : Int) (rs bl ok : Bool) (W : World) (h0 : 0 ≤ q) (h1 : q < 18446744073709551616)
    (hd : ∀ W, Calls Tryd.prog 26 #[.int .i64 a, .int .i64 b, .int .i64 c] W fun e w' => e = .returned (.tuple #[.int .u64 q, .bool rs, .bool bl, .bool ok]) ∧ Below W.heap.size W w')
    (r : Int × Bool) (hr : r = if ok = false then (0, false) else held64 (if bl = true then -q else (if rs = true then q + 1 else q))) :
    Calls Tryd.prog 18 #[.int .i64 a, .int .i64 b, .int .i64 c] W fun e w' => e = .returned (.tuple #[.int .i64 r.1, .bool r.2]) ∧ Below W.heap.size W w' := by
  have cD : ∀ W, Calls Tryd.prog 26 #[.int .i64 a, .int .i64 b, .int .i64 c] W fun e w' => e = .returned (.tuple #[.int .u64 q, .bool rs, .bool bl, .bool ok]) ∧ Below W.heap.size W w' := hd
  have CD := Aside0.mk cD
  clear cD hd
  have HB := Aside0.mk (Below.refl W.heap.size W)
  have HR := Aside0.mk hr
  clear hr
  cases ok
  · go_enter Tryd.func18, Tryd.ntmps18
    go_wp2_with (first | (go_at_call 26; (with_reducible refine (CD.out _).mono ?_); rintro e w7 ⟨rfl, hb⟩; have n0_ := Aside0.mk (below_step (by repeat (first | (with_reducible first | exact HB.out | apply below_alloc | apply pw_below_drewN | apply below_drew1) | exact HB.out)) hb); clear HB; have HB := n0_; clear n0_ hb))
    go_ret2
    exact ⟨by rw [HR.out]; rfl, (by repeat (first | (with_reducible first | exact HB.out | apply below_alloc | apply pw_below_drewN | apply below_drew1) | exact HB.out))⟩
  · cases bl
    · cases rs
      · go_enter Tryd.func18, Tryd.ntmps18
        go_wp2_with (first | (go_at_call 26; (with_reducible refine (CD.out _).mono ?_); rintro e w7 ⟨rfl, hb⟩; have n0_ := Aside0.mk (below_step (by repeat (first | (with_reducible first | exact HB.out | apply below_alloc | apply pw_below_drewN | apply below_drew1) | exact HB.out)) hb); clear HB; have HB := n0_; clear n0_ hb) | (go_at_call 27; (with_reducible refine (held_any false q _ h0 h1).mono ?_); rintro e w7 ⟨rfl, hb⟩; have n0_ := Aside0.mk (below_step (by repeat (first | (with_reducible first | exact HB.out | apply below_alloc | apply pw_below_drewN | apply below_drew1) | exact HB.out)) hb); clear HB; have HB := n0_; clear n0_ hb))
        go_ret2
        exact ⟨by rw [HR.out]; rfl, (by repeat (first | (with_reducible first | exact HB.out | apply below_alloc | apply pw_below_drewN | apply below_drew1) | exact HB.out))⟩
      · by_cases hq : q = 18446744073709551615
        · have hqb : (q == 18446744073709551615) = true := beq_iff_eq.2 hq
          have HQ := Aside0.mk hq
          clear hq
          go_enter Tryd.func18, Tryd.ntmps18
          go_wp2_with (first | (go_at_call 26; (with_reducible refine (CD.out _).mono ?_); rintro e w7 ⟨rfl, hb⟩; have n0_ := Aside0.mk (below_step (by repeat (first | (with_reducible first | exact HB.out | apply below_alloc | apply pw_below_drewN | apply below_drew1) | exact HB.out)) hb); clear HB; have HB := n0_; clear n0_ hb))
          go_ret2
          exact ⟨by rw [HR.out, HQ.out]; rfl, (by repeat (first | (with_reducible first | exact HB.out | apply below_alloc | apply pw_below_drewN | apply below_drew1) | exact HB.out))⟩
        · have hqb : (q == 18446744073709551615) = false := beq_eq_false_iff_ne.2 hq
          have hq2 : q + 1 < 18446744073709551616 := by omega
          go_enter Tryd.func18, Tryd.ntmps18
          go_wp2_with (first | (go_at_call 26; (with_reducible refine (CD.out _).mono ?_); rintro e w7 ⟨rfl, hb⟩; have n0_ := Aside0.mk (below_step (by repeat (first | (with_reducible first | exact HB.out | apply below_alloc | apply pw_below_drewN | apply below_drew1) | exact HB.out)) hb); clear HB; have HB := n0_; clear n0_ hb) | (go_at_call 27; (with_reducible refine (held_any false (q + 1) _ (by omega) hq2).mono ?_); rintro e w7 ⟨rfl, hb⟩; have n0_ := Aside0.mk (below_step (by repeat (first | (with_reducible first | exact HB.out | apply below_alloc | apply pw_below_drewN | apply below_drew1) | exact HB.out)) hb); clear HB; have HB := n0_; clear n0_ hb))
          go_ret2
          exact ⟨by rw [HR.out]; rfl, (by repeat (first | (with_reducible first | exact HB.out | apply below_alloc | apply pw_below_drewN | apply below_drew1) | exact HB.out))⟩
    · go_enter Tryd.func18, Tryd.ntmps18
      go_wp2_with (first | (go_at_call 26; (with_reducible refine (CD.out _).mono ?_); rintro e w7 ⟨rfl, hb⟩; have n0_ := Aside0.mk (below_step (by repeat (first | (with_reducible first | exact HB.out | apply below_alloc | apply pw_below_drewN | apply below_drew1) | exact HB.out)) hb); clear HB; have HB := n0_; clear n0_ hb) | (go_at_call 27; (with_reducible refine (held_any true q _ h0 h1).mono ?_); rintro e w7 ⟨rfl, hb⟩; have n0_ := Aside0.mk (below_step (by repeat (first | (with_reducible first | exact HB.out | apply below_alloc | apply pw_below_drewN | apply below_drew1) | exact HB.out)) hb); clear HB; have HB := n0_; clear n0_ hb))
      go_ret2
      exact ⟨by rw [HR.out]; rfl, (by repeat (first | (with_reducible first | exact HB.out | apply below_alloc | apply pw_below_drewN | apply below_drew1) | exact HB.out))⟩
theorem divd_share (a b c : Int) (hc : 0 < c) : ((a * b).natAbs : Int) / c * (if a * b < 0 then -1 else 1) - (if a * b < 0 ∧ 0 < ((a * b).natAbs : Int) % c then 1 else 0) = a * b / c ∧
    ((a * b).natAbs : Int) / c * (if a * b < 0 then -1 else 1) + (if ¬ a * b < 0 ∧ 0 < ((a * b).natAbs : Int) % c then 1 else 0) = -(-(a * b) / c) := by
  generalize a * b = x
  have e1 := Int.mul_ediv_add_emod x c
  have m1 := Int.emod_nonneg x (show c ≠ 0 by omega)
  have l1 := Int.emod_lt_of_pos x hc
  have e2 := Int.mul_ediv_add_emod (-x) c
  have m2 := Int.emod_nonneg (-x) (show c ≠ 0 by omega)
  have l2 := Int.emod_lt_of_pos (-x) hc
  have key : ∀ p q : Int, -c < c * p + c * q → c * p + c * q < c → p + q = 0 := fun p q h h' => by
    rw [← Int.mul_add] at h h'
    generalize p + q = t at *
    rcases Int.lt_trichotomy t 0 with g | g | g
    · have := Int.mul_le_mul_of_nonneg_left (show t ≤ -1 by omega) (show 0 ≤ c by omega); omega
    · exact g
    · have := Int.mul_le_mul_of_nonneg_left (show 1 ≤ t by omega) (show 0 ≤ c by omega); omega
  have key2 : ∀ p q : Int, -c - c < c * p + c * q → c * p + c * q < 0 → p + q = -1 := fun p q h h' => by
    have := key (p + 1) q (by rw [Int.mul_add]; omega) (by rw [Int.mul_add]; omega); omega
  by_cases hx : x < 0
  · rw [show ((x.natAbs : Nat) : Int) = -x by omega]
    simp only [hx, if_true, true_and, not_true_eq_false, false_and, if_false]
    by_cases hm : 0 < -x % c
    · rw [if_pos hm]
      have := key2 (x / c) (-x / c) (by omega) (by omega)
      omega
    · rw [if_neg hm]
      have := key (x / c) (-x / c) (by omega) (by omega)
      omega
  · rw [show ((x.natAbs : Nat) : Int) = x by omega]
    simp only [hx, if_false, false_and, not_false_eq_true, true_and]
    by_cases hm : 0 < x % c
    · rw [if_pos hm]
      have := key2 (x / c) (-x / c) (by omega) (by omega)
      omega
    · rw [if_neg hm]
      have := key (x / c) (-x / c) (by omega) (by omega)
      omega
theorem divd_q (a b c : Int) (ha : -9223372036854775808 ≤ a ∧ a ≤ 9223372036854775807) (hb : -9223372036854775808 ≤ b ∧ b ≤ 9223372036854775807) : 0 ≤ (divd a b c).1 ∧ (divd a b c).1 < 18446744073709551616 := by
  have hP := natAbs_bd a b ha.1 ha.2 hb.1 hb.2
  unfold divd
  split
  · simp
  · rename_i h
    have h' : ¬ c < 1 ∧ ¬ c ≤ ((a * b).natAbs : Int) / 18446744073709551616 := by omega
    refine ⟨Int.ediv_nonneg (by omega) (by omega), ?_⟩
    show ((a * b).natAbs : Int) / c < 18446744073709551616
    rw [Int.ediv_lt_iff_lt_mul (by omega)]
    omega
theorem share_any (a b c : Int) (W : World) (ha : -9223372036854775808 ≤ a ∧ a ≤ 9223372036854775807) (hb : -9223372036854775808 ≤ b ∧ b ≤ 9223372036854775807) (hc : c ≤ 9223372036854775807) :
    Calls Tryd.prog 19 #[.int .i64 a, .int .i64 b, .int .i64 c] W fun e w' => e = .returned (.tuple #[.int .i64 (shareI a b c).1, .bool (shareI a b c).2]) ∧ Below W.heap.size W w' := by
  have hq := divd_q a b c ha hb
  refine share_walk a b c _ _ _ _ W hq.1 hq.2 (fun W => divided_any a b c W ha hb hc) _ ?_
  have hP := natAbs_bd a b ha.1 ha.2 hb.1 hb.2
  have hs := fun h => (divd_share a b c h).1
  unfold shareI divd
  by_cases h : c < 1
  · rw [if_pos h, if_pos (Or.inl h)]; rfl
  · rw [if_neg h]
    have hs := hs (by omega)
    by_cases g : c ≤ ((a * b).natAbs : Int) / 18446744073709551616
    · rw [if_pos (Or.inr g), held64_out ?_]
      · rfl
      · have : 18446744073709551616 ≤ ((a * b).natAbs : Int) / c := by
          rw [Int.le_ediv_iff_mul_le (by omega)]; omega
        rw [← hs]
        repeat' split
        all_goals omega
    · rw [if_neg (show ¬ (c < 1 ∨ c ≤ ((a * b).natAbs : Int) / 18446744073709551616) by omega)]
      simp only [Bool.true_eq_false, if_false, decide_eq_true_eq]
      rw [← hs]
      congr 1
      repeat' split
      all_goals omega
theorem up_any (a b c : Int) (W : World) (ha : -9223372036854775808 ≤ a ∧ a ≤ 9223372036854775807) (hb : -9223372036854775808 ≤ b ∧ b ≤ 9223372036854775807) (hc : c ≤ 9223372036854775807) :
    Calls Tryd.prog 18 #[.int .i64 a, .int .i64 b, .int .i64 c] W fun e w' => e = .returned (.tuple #[.int .i64 (upI a b c).1, .bool (upI a b c).2]) ∧ Below W.heap.size W w' := by
  have hq := divd_q a b c ha hb
  refine up_walk a b c _ _ _ _ W hq.1 hq.2 (fun W => divided_any a b c W ha hb hc) _ ?_
  have hP := natAbs_bd a b ha.1 ha.2 hb.1 hb.2
  have hs := fun h => (divd_share a b c h).2
  unfold upI divd
  by_cases h : c < 1
  · rw [if_pos h, if_pos (Or.inl h)]; rfl
  · rw [if_neg h]
    have hs := hs (by omega)
    by_cases g : c ≤ ((a * b).natAbs : Int) / 18446744073709551616
    · rw [if_pos (Or.inr g), held64_out ?_]
      · rfl
      · have : 18446744073709551616 ≤ ((a * b).natAbs : Int) / c := by
          rw [Int.le_ediv_iff_mul_le (by omega)]; omega
        rw [← hs]
        repeat' split
        all_goals omega
    · rw [if_neg (show ¬ (c < 1 ∨ c ≤ ((a * b).natAbs : Int) / 18446744073709551616) by omega)]
      simp only [Bool.true_eq_false, if_false, decide_eq_true_eq]
      rw [← hs]
      congr 1
      repeat' split
      all_goals omega

abbrev Tab (w : World) : Prop := Lib.TabIs Tryd.prog w "internal/strconv.uint64pow10" .u64 Lib.pow10Tab
theorem gTab : Tryd.prog.globalNamed "internal/strconv.uint64pow10" = some 2 := by kernel_rfl
theorem tab_below {w w' : World} (h : Tab w) (hb : Below w.heap.size w w') : Tab w' := by
  unfold Tab Lib.TabIs World.var? at h ⊢
  rw [gTab] at h ⊢
  simp only [Option.bind_some] at h ⊢
  have hlt : 2 < w.heap.size := by
    rcases Nat.lt_or_ge 2 w.heap.size with h' | h'
    · exact h'
    · rw [Array.getElem?_eq_none h'] at h; cases h
  rw [hb.block 2 hlt]
  exact h
theorem fmt_any (n : Int) (h0 : -9223372036854775808 ≤ n) (h1 : n ≤ 9223372036854775807) (W : World) (hT : Tab W) :
    Calls Tryd.prog 20 #[.int .i64 n, .int .i64 10] W fun e w' => e = .returned (.string ⟨(Lib.itoa n).toArray⟩) ∧ Below W.heap.size W w' := by
  refine (Tryd.strconv_FormatInt_10 n h0 h1 W hT).mono fun e w' ⟨he, k, os, hw⟩ => ⟨he, ?_⟩
  subst hw
  have e0 : («Sort».grow (W.drewN k) os).heap.size = W.heap.size + os.size := by simp [«Sort».grow, World.drewN]
  exact ⟨rfl, rfl, rfl, by omega, fun g hg => Lib.heap_grow_old W k os g hg⟩
set_option maxHeartbeats 4000000
set_option maxRecDepth 100000
theorem text_walk (s m : Int) (A B : List UInt8) (h0 : 0 ≤ s) (h1 : s ≤ 9223372036854775807) (W : World) (hT : Tab W) (hm0 : 0 ≤ m) (hm1 : m ≤ 999)
    (C1 : Aside0 (∀ W, Calls Tryd.prog 19 #[.int .i64 (s % 1048576), .int .i64 1000, .int .i64 1048576] W fun e w' => e = .returned (.tuple #[.int .i64 m, .bool true]) ∧ Below W.heap.size W w'))
    (C2 : Aside0 (∀ W, Tab W → Calls Tryd.prog 20 #[.int .i64 (wrap64 (s.tdiv 1048576)), .int .i64 10] W fun e w' => e = .returned (.string ⟨A.toArray⟩) ∧ Below W.heap.size W w'))
    (C3 : Aside0 (∀ W, Tab W → Calls Tryd.prog 20 #[.int .i64 (m + 1000), .int .i64 10] W fun e w' => e = .returned (.string ⟨B.toArray⟩) ∧ Below W.heap.size W w'))
    (hB1 : (1 ≤ (B.length : Int)) = True) (hA1 : (9223372036854775807 < A.length + 1) = False) (hA2 : (9223372036854775807 < A.length + 1 + (B.length - 1)) = False) :
    Calls Tryd.prog 11 #[.int .i64 s] W fun e w' => e = .returned (.string ((⟨A.toArray⟩ ++ ⟨#[46]⟩) ++ (⟨B.toArray⟩ : ByteArray).extract 1 B.length)) ∧ Below W.heap.size W w' := by
  have HB := Aside0.mk (Below.refl W.heap.size W)
  have HT := Aside0.mk hT
  go_enter Tryd.func11, Tryd.ntmps11
  go_wp2_with (first | (go_at_call 19; (with_reducible refine (C1.out _).mono ?_); rintro e w7 ⟨rfl, hb⟩; have n0_ := Aside0.mk (below_step (by repeat (first | (with_reducible first | exact HB.out | apply below_alloc | apply pw_below_drewN | apply below_drew1) | exact HB.out)) hb); clear HB; have HB := n0_; clear n0_ hb) | (go_at_call 20; (with_reducible refine (C3.out _ (tab_below HT.out (by repeat (first | (with_reducible first | exact HB.out | apply below_alloc | apply pw_below_drewN | apply below_drew1) | exact HB.out)))).mono ?_); rintro e w7 ⟨rfl, hb⟩; have n0_ := Aside0.mk (below_step (by repeat (first | (with_reducible first | exact HB.out | apply below_alloc | apply pw_below_drewN | apply below_drew1) | exact HB.out)) hb); clear HB; have HB := n0_; clear n0_ hb))
  refine start_ (n := 8) (S := fun w' => True) (ds := []) #[false, false, false, false, false, false, false, false] (by kernel_rfl) rfl rfl trivial (fun hHeld => ?_)
  refine pure_ (i := 0) (N := some 23) (v := ?_) (a' := ?_) #[true, false, false, false, false, false, false, false] rfl rfl (by kernel_rfl) (fun _ _ _ h => h) (Or.inl ⟨by rfl, ?_⟩) ?_ ?_
  rotate_left
  · intro w'
    go_simp
    with_reducible rfl
  rotate_left
  · simp only [Act.put, List.setIfInBounds_toArray, List.set_cons_zero, List.set_cons_succ, i64_w, i32_w]
    rfl
  refine pure_ (i := 1) (N := some 24) (v := ?_) (a' := ?_) #[true, true, false, false, false, false, false, false] rfl rfl (by kernel_rfl) (fun _ _ _ h => h) (Or.inl ⟨by rfl, ?_⟩) ?_ ?_
  rotate_left
  · intro w'
    go_simp
    with_reducible rfl
  rotate_left
  · simp only [Act.put, List.setIfInBounds_toArray, List.set_cons_zero, List.set_cons_succ, i64_w, i32_w]
    rfl
  refine pure_ (i := 4) (N := some 27) (v := ?_) (a' := ?_) #[true, true, false, false, true, false, false, false] rfl rfl (by kernel_rfl) (fun _ _ _ h => h) (Or.inl ⟨by rfl, ?_⟩) ?_ ?_
  rotate_left
  · intro w'
    go_simp
    with_reducible rfl
  rotate_left
  · simp only [Act.put, List.setIfInBounds_toArray, List.set_cons_zero, List.set_cons_succ, i64_w, i32_w]
    rfl
  refine pure_ (i := 5) (N := some 28) (v := ?_) (a' := ?_) #[true, true, false, false, true, true, false, false] rfl rfl (by kernel_rfl) (fun _ _ _ h => h) (Or.inl ⟨by rfl, ?_⟩) ?_ ?_
  rotate_left
  · intro w'
    go_simp
    with_reducible rfl
  rotate_left
  · simp only [Act.put, List.setIfInBounds_toArray, List.set_cons_zero, List.set_cons_succ, i64_w, i32_w]
    rfl
  refine one_ (i := 2) (N := some 25) #[true, true, true, false, true, true, false, false] rfl rfl (by kernel_rfl) (by decide) (fun K hK => ?_)
  refine goes_ Tryd.func20 (by kernel_rfl) rfl #[.int .i64 (wrap64 (s.tdiv 1048576)), .int .i64 10] (by rfl) rfl rfl (by simp only [List.map_toArray, List.map_cons, List.map_nil]; rfl) ?_
  with_reducible refine (C2.out _ (tab_below HT.out (by repeat (first | (with_reducible first | exact HB.out | apply below_alloc | apply pw_below_drewN | apply below_drew1) | exact HB.out)))).mono ?_
  rintro e w7 ⟨rfl, hb⟩
  refine ⟨_, rfl, ?_⟩
  have n0_ := Aside0.mk (below_step (by repeat (first | (with_reducible first | exact HB.out | apply below_alloc | apply pw_below_drewN | apply below_drew1) | exact HB.out)) hb)
  clear HB
  have HB := n0_
  clear n0_ hb
  refine hK.out _ _ trivial (fun hHeld => ?_)
  clear hK K
  refine norm_ (a' := ?_) ?_ ?_
  rotate_left
  · show Act.put _ (some 25) _ = _
    simp only [Act.put, List.setIfInBounds_toArray, List.set_cons_zero, List.set_cons_succ, i64_w, i32_w]
    rfl
  refine pure_ (i := 3) (N := some 26) (v := ?_) (a' := ?_) #[true, true, true, true, true, true, false, false] rfl rfl (by kernel_rfl) (fun _ _ _ h => h) (Or.inl ⟨by rfl, ?_⟩) ?_ ?_
  rotate_left
  · intro w'
    go_simp
    with_reducible rfl
  rotate_left
  · simp only [Act.put, List.setIfInBounds_toArray, List.set_cons_zero, List.set_cons_succ, i64_w, i32_w]
    rfl
  refine pure_ (i := 6) (N := some 29) (v := ?_) (a' := ?_) #[true, true, true, true, true, true, true, false] rfl rfl (by kernel_rfl) (fun _ _ _ h => h) (Or.inl ⟨by rfl, ?_⟩) ?_ ?_
  rotate_left
  · intro w'
    go_simp
    with_reducible rfl
  rotate_left
  · simp only [Act.put, List.setIfInBounds_toArray, List.set_cons_zero, List.set_cons_succ, i64_w, i32_w]
    rfl
  refine pure_ (i := 7) (N := some 2) (v := ?_) (a' := ?_) #[true, true, true, true, true, true, true, true] rfl rfl (by kernel_rfl) (fun _ _ _ h => h) (Or.inl ⟨by rfl, ?_⟩) ?_ ?_
  rotate_left
  · intro w'
    go_simp
    with_reducible rfl
  rotate_left
  · simp only [Act.put, List.setIfInBounds_toArray, List.set_cons_zero, List.set_cons_succ, i64_w, i32_w]
    rfl
  refine done_ (by kernel_rfl) ?_
  go_wp2
  go_ret
  exact ⟨rfl, (by repeat (first | (with_reducible first | exact HB.out | apply below_alloc | apply pw_below_drewN | apply below_drew1) | exact HB.out))⟩
/-- A share's text, from 0 on. -/
def fracL (s : Int) : List UInt8 := Lib.itoa (s % 1048576 * 1000 / 1048576 + 1000)
def textP (s : Int) : ByteArray := (⟨(Lib.itoa (s / 1048576)).toArray⟩ ++ ⟨#[46]⟩) ++ (⟨(fracL s).toArray⟩ : ByteArray).extract 1 (fracL s).length
def textB (s : Int) : ByteArray := if s = -9223372036854775808 then ⟨#[45]⟩ else if s < 0 then ⟨#[45]⟩ ++ textP (-s) else textP s
theorem fracL_len (s : Int) : 1 ≤ (fracL s).length ∧ (fracL s).length ≤ 21 := by
  unfold fracL
  refine ⟨?_, Lib.itoa_length_le _ (by omega) (by omega)⟩
  generalize hx : s % 1048576 * 1000 / 1048576 + 1000 = x
  obtain ⟨u, rfl⟩ : ∃ u : Nat, x = (u : Int) := ⟨x.toNat, by omega⟩
  rw [Lib.itoa_nonneg]
  rcases Nat.eq_zero_or_pos (Lib.decDigits u).length with h | h
  · rw [Lib.decDigits_length] at h
    exfalso
    have := Lib.decDigits_length u
    unfold Lib.nDigits at h
    split at h <;> omega
  · exact h
theorem text_pos (s : Int) (h0 : 0 ≤ s) (h1 : s ≤ 9223372036854775807) (W : World) (hT : Tab W) :
    Calls Tryd.prog 11 #[.int .i64 s] W fun e w' => e = .returned (.string (textP s)) ∧ Below W.heap.size W w' := by
  have hq : wrap64 (s.tdiv 1048576) = s / 1048576 := by rw [Int.tdiv_eq_ediv_of_nonneg h0]; exact w64 (by omega) (by omega)
  have hA := Lib.itoa_length_le (s / 1048576) (by omega) (by omega)
  have hB := fracL_len s
  refine text_walk s (s % 1048576 * 1000 / 1048576) (Lib.itoa (s / 1048576)) (fracL s) h0 h1 W hT (by omega) (by omega) ⟨fun W => ?_⟩ ⟨fun W hT => ?_⟩ ⟨fun W hT => ?_⟩ (eq_true (by omega)) (eq_false (by omega)) (eq_false (by omega))
  · have := share_any (s % 1048576) 1000 1048576 W (by omega) (by omega) (by omega)
    rw [show shareI (s % 1048576) 1000 1048576 = (s % 1048576 * 1000 / 1048576, true) by unfold shareI; rw [if_neg (by omega), held64_in (by omega) (by omega)]] at this
    exact this
  · rw [hq]; exact fmt_any _ (by omega) (by omega) W hT
  · exact fmt_any _ (by omega) (by omega) W hT
theorem textP_size (s : Int) (h0 : 0 ≤ s) (h1 : s ≤ 9223372036854775807) : (textP s).size ≤ 50 := by
  have hA := Lib.itoa_length_le (s / 1048576) (by omega) (by omega)
  have hB := fracL_len s
  unfold textP
  simp [ByteArray.size_append, ByteArray.size_extract]
  have : (⟨(Lib.itoa (s / 1048576)).toArray⟩ : ByteArray).size = (Lib.itoa (s / 1048576)).length := by simp [ByteArray.size]
  have : (⟨(fracL s).toArray⟩ : ByteArray).size = (fracL s).length := by simp [ByteArray.size]
  have : (⟨#[46]⟩ : ByteArray).size = 1 := rfl
  omega
theorem neg_walk (s : Int) (t : ByteArray) (h0 : s < 0) (h1 : -9223372036854775808 < s) (W : World)
    (C : Aside0 (∀ W, Tab W → Calls Tryd.prog 11 #[.int .i64 (-s)] W fun e w' => e = .returned (.string t) ∧ Below W.heap.size W w')) (hT : Tab W) (hs : (9223372036854775807 < 1 + t.size) = False) :
    Calls Tryd.prog 11 #[.int .i64 s] W fun e w' => e = .returned (.string (⟨#[45]⟩ ++ t)) ∧ Below W.heap.size W w' := by
  have HB := Aside0.mk (Below.refl W.heap.size W)
  have HT := Aside0.mk hT
  go_enter Tryd.func11, Tryd.ntmps11
  go_wp2_with (first | (go_at_call 11; (with_reducible refine (C.out _ (tab_below HT.out (by repeat (first | (with_reducible first | exact HB.out | apply below_alloc | apply pw_below_drewN | apply below_drew1) | exact HB.out)))).mono ?_); rintro e w7 ⟨rfl, hb⟩; have n0_ := Aside0.mk (below_step (by repeat (first | (with_reducible first | exact HB.out | apply below_alloc | apply pw_below_drewN | apply below_drew1) | exact HB.out)) hb); clear HB; have HB := n0_; clear n0_ hb))
  go_ret
  exact ⟨rfl, (by repeat (first | (with_reducible first | exact HB.out | apply below_alloc | apply pw_below_drewN | apply below_drew1) | exact HB.out))⟩
theorem min_walk (W : World) : Calls Tryd.prog 11 #[.int .i64 (-9223372036854775808)] W fun e w' => e = .returned (.string ⟨#[45]⟩) ∧ Below W.heap.size W w' := by
  have HB := Aside0.mk (Below.refl W.heap.size W)
  go_enter Tryd.func11, Tryd.ntmps11
  go_wp2
  go_ret
  exact ⟨rfl, (by repeat (first | (with_reducible first | exact HB.out | apply below_alloc | apply pw_below_drewN | apply below_drew1) | exact HB.out))⟩
def util_Text.f (s : Int) : Option ByteArray := if -9223372036854775808 ≤ s ∧ s ≤ 9223372036854775807 then some (textB s) else none
theorem util_Text.calls (a0 : Int) (r : ByteArray) (w : World) (hTb : Tab w) (h : util_Text.f a0 = some r) : Calls Tryd.prog 11 #[.int .i64 a0] w fun e w' => e = .returned (.string r) ∧ Below w.heap.size w w' := by
  unfold util_Text.f at h
  split at h
  · rename_i g
    obtain rfl := Option.some.inj h
    unfold textB
    split
    · rename_i e; subst e; exact min_walk w
    · split
      · have hz := textP_size (-a0) (by omega) (by omega)
        exact neg_walk a0 _ (by omega) (by omega) w ⟨fun W hT => text_pos (-a0) (by omega) (by omega) W hT⟩ hTb (eq_false (by omega))
      · exact text_pos a0 (by omega) (by omega) w hTb
  · cases h
def num_Up.f (a b c : Int) : Option (Int × Bool) :=
  if ((-9223372036854775808 ≤ a ∧ a ≤ 9223372036854775807) ∧ (-9223372036854775808 ≤ b ∧ b ≤ 9223372036854775807)) ∧ c ≤ 9223372036854775807 then some (upI a b c) else none
theorem num_Up.calls (a0 : Int) (a1 : Int) (a2 : Int) (r1 : Int) (r2 : Bool) (w : World) (h : num_Up.f a0 a1 a2 = some (r1, r2)) :
    Calls Tryd.prog 18 #[.int .i64 a0, .int .i64 a1, .int .i64 a2] w fun e w' => e = .returned (.tuple #[.int .i64 r1, .bool r2]) ∧ Below w.heap.size w w' := by
  unfold num_Up.f at h
  split at h
  · rename_i g
    have h2 := Option.some.inj h
    have := up_any a0 a1 a2 w g.1.1 g.1.2 g.2
    rw [h2] at this
    exact this
  · cases h

end Go.Proofs.YteahinhmdeakfaaDoor.PUt
