/- What is above so often another value stays so where it grows or the other falls, and what is within the bound stays so the other way: for every five 64-bit numbers. -/
import Derived.Test.YtfgilibcekfibaaPSurdGrowsx2
namespace Go.Proofs.Ytfgilibcekfibaa.Pure
open Go.RowKit Go.Proofs.Ytfgilibcekfibaa.PSurdGrows Go.Proofs.YtfgilibcekfibaaW.PrintWords Go.Proofs.YtfgilibcekfibaaW.PrintLast Go.Proofs.YtfgilibcekfibaaW.PrintMore 
set_option linter.unusedVariables false
set_option linter.unusedSimpArgs false

theorem w64 {x : Int} (h0 : -9223372036854775808 ≤ x) (h1 : x ≤ 9223372036854775807) : wrap64 x = x := by unfold wrap64; omega
theorem wu64 {x : Int} (h0 : 0 ≤ x) (h1 : x < 18446744073709551616) : IntKind.u64.wrap x = x := by rw [IntKind.wrap_u64]; omega
theorem wf_i64 {a : Int} (h : (Lit.int .i64 a).wf = true) : -9223372036854775808 ≤ a ∧ a ≤ 9223372036854775807 := by
  simp [Lit.wf, IntKind.min, IntKind.max, IntKind.signed, IntKind.bits] at h
  omega
theorem mul_bd {x y : Int} (a b : Int) (h1 : -a ≤ x) (h2 : x ≤ a) (h3 : -b ≤ y) (h4 : y ≤ b) : -(a * b) ≤ x * y ∧ x * y ≤ a * b := by
  have hx : x.natAbs ≤ a.natAbs := by omega
  have hy : y.natAbs ≤ b.natAbs := by omega
  have h := Nat.mul_le_mul hx hy
  rw [← Int.natAbs_mul, ← Int.natAbs_mul] at h
  have ha : 0 ≤ a * b := Int.mul_nonneg (by omega) (by omega)
  omega
theorem mul_bd0 {x y : Int} (a b : Int) (h1 : 0 ≤ x) (h2 : x ≤ a) (h3 : 0 ≤ y) (h4 : y ≤ b) : 0 ≤ x * y ∧ x * y ≤ a * b :=
  ⟨Int.mul_nonneg h1 h3, Int.mul_le_mul h2 h4 h3 (Int.le_trans h1 h2)⟩
theorem g_if {c : Prop} [Decidable c] {X : Option Bool} (h : ¬ c → X = some true) : (if c then some true else X) = some true := by
  by_cases g : c
  · rw [if_pos g]
  · rw [if_neg g]; exact h g

theorem mask32 {x : Int} (h0 : 0 ≤ x) (h1 : x < 18446744073709551616) : Go.bits .and .u64 x 4294967295 = x % 4294967296 :=
  bits_mask .u64 64 (by decide) (fun n h h' => by rw [IntKind.wrap_u64]; omega) 32 (by decide) x h0 h1
theorem bits_or_pos {x y : Int} (hx0 : 0 ≤ x) (hx1 : x < 18446744073709551616) (hy0 : 0 ≤ y) (hy1 : y < 18446744073709551616) : (Go.bits .or .u64 x y > 0) ↔ (x ≠ 0 ∨ y ≠ 0) := by
  obtain ⟨a, rfl⟩ := Int.eq_ofNat_of_zero_le hx0
  obtain ⟨b, rfl⟩ := Int.eq_ofNat_of_zero_le hy0
  rw [(bits_nat .u64 64 (by decide) (fun n h h' => by rw [IntKind.wrap_u64]; omega) a b (by omega) (by omega)).2]
  have h1 : a ≤ a ||| b := Nat.left_le_or
  have h2 : b ≤ a ||| b := Nat.right_le_or
  constructor
  · intro h
    by_cases ha : a = 0
    · subst ha
      right
      rw [Nat.zero_or] at h
      omega
    · left; omega
  · intro h; omega
theorem mul_parts {a b : Int} (ha0 : 0 ≤ a) (ha1 : a < 18446744073709551616) (hb0 : 0 ≤ b) (hb1 : b < 18446744073709551616) :
    ∃ p q r s : Int, (a / 4294967296) * (b / 4294967296) = p ∧ (a / 4294967296) * (b % 4294967296) = q ∧ (a % 4294967296) * (b / 4294967296) = r ∧ (a % 4294967296) * (b % 4294967296) = s ∧
      a * b = p * 18446744073709551616 + (q + r) * 4294967296 + s ∧ 0 ≤ p ∧ p ≤ 18446744065119617025 ∧ 0 ≤ q ∧ q ≤ 18446744065119617025 ∧ 0 ≤ r ∧ r ≤ 18446744065119617025 ∧ 0 ≤ s ∧ s ≤ 18446744065119617025 := by
  have e : a = (a / 4294967296) * 4294967296 + a % 4294967296 := by omega
  have f : b = (b / 4294967296) * 4294967296 + b % 4294967296 := by omega
  refine ⟨_, _, _, _, rfl, rfl, rfl, rfl, ?_, ?_⟩
  · have g : ((a / 4294967296) * 4294967296 + a % 4294967296) * ((b / 4294967296) * 4294967296 + b % 4294967296) = (a / 4294967296) * (b / 4294967296) * 18446744073709551616 + ((a / 4294967296) * (b % 4294967296) + (a % 4294967296) * (b / 4294967296)) * 4294967296 + (a % 4294967296) * (b % 4294967296) := by
      generalize a / 4294967296 = x; generalize a % 4294967296 = y; generalize b / 4294967296 = z; generalize b % 4294967296 = t
      grind
    rw [← e, ← f] at g
    exact g
  · have h1 := mul_bd0 (x := a / 4294967296) (y := b / 4294967296) 4294967295 4294967295 (by omega) (by omega) (by omega) (by omega)
    have h2 := mul_bd0 (x := a / 4294967296) (y := b % 4294967296) 4294967295 4294967295 (by omega) (by omega) (by omega) (by omega)
    have h3 := mul_bd0 (x := a % 4294967296) (y := b / 4294967296) 4294967295 4294967295 (by omega) (by omega) (by omega) (by omega)
    have h4 := mul_bd0 (x := a % 4294967296) (y := b % 4294967296) 4294967295 4294967295 (by omega) (by omega) (by omega) (by omega)
    omega
theorem mul64_is (a b : Int) (ha0 : 0 ≤ a) (ha1 : a < 18446744073709551616) (hb0 : 0 ≤ b) (hb1 : b < 18446744073709551616) :
    bits_Mul64.f a b = some (a * b / 18446744073709551616, a * b % 18446744073709551616) := by
  obtain ⟨p, q, r, s, hp, hq, hr, hs, he, b1⟩ := mul_parts ha0 ha1 hb0 hb1
  unfold bits_Mul64.f
  rw [mask32 ha0 ha1, mask32 hb0 hb1, hp, hq, hr, hs, he]
  simp only [IntKind.wrap_u64]
  rw [mask32 (by omega) (by omega)]
  congr 2 <;> omega

/-- How one number compares to another. -/
def cmpI (x y : Int) : Int := if x < y then -1 else if x = y then 0 else 1
/-- A number of 128 bits, its side first. -/
theorem side_is (a : Int) (h0 : -9223372036854775808 ≤ a) (h1 : a ≤ 9223372036854775807) : num_side.f a = some (a.natAbs : Int) := by
  unfold num_side.f
  simp only [IntKind.wrap_u64]
  split <;> (congr 1; omega)
theorem natAbs_mul_i (a b : Int) : (a.natAbs : Int) * (b.natAbs : Int) = ((a * b).natAbs : Int) := by
  rw [Int.natAbs_mul]; simp
theorem natAbs_bd (a b : Int) (ha0 : -9223372036854775808 ≤ a) (ha1 : a ≤ 9223372036854775807) (hb0 : -9223372036854775808 ≤ b) (hb1 : b ≤ 9223372036854775807) : ((a * b).natAbs : Int) ≤ 85070591730234615865843651857942052864 := by
  have := mul_bd (x := a) (y := b) 9223372036854775808 9223372036854775808 (by omega) (by omega) (by omega) (by omega)
  omega
theorem neg_mul_iff (a b : Int) : (a * b < 0) ↔ ((decide (a < 0)) != (decide (b < 0))) = true ∧ a * b ≠ 0 := by
  rcases Int.lt_trichotomy a 0 with h | h | h <;> rcases Int.lt_trichotomy b 0 with g | g | g
  · have := Int.mul_pos_of_neg_of_neg h g
    simp [h, g]; omega
  · subst g; simp
  · have := Int.mul_neg_of_neg_of_pos h g
    have hb : ¬ b < 0 := by omega
    simp [h, hb]; omega
  · subst h; simp
  · subst h; simp
  · subst h; simp
  · have := Int.mul_neg_of_pos_of_neg h g
    have ha : ¬ a < 0 := by omega
    simp [g, ha]; omega
  · subst g; simp
  · have := Int.mul_pos h g
    have ha : ¬ a < 0 := by omega
    have hb : ¬ b < 0 := by omega
    simp [ha, hb]; omega
theorem product_is (a b : Int) (ha0 : -9223372036854775808 ≤ a) (ha1 : a ≤ 9223372036854775807) (hb0 : -9223372036854775808 ≤ b) (hb1 : b ≤ 9223372036854775807) :
    num_product.f a b = some (decide (a * b < 0), ((a * b).natAbs : Int) / 18446744073709551616, ((a * b).natAbs : Int) % 18446744073709551616) := by
  have hbd := natAbs_bd a b ha0 ha1 hb0 hb1
  unfold num_product.f
  rw [side_is a ha0 ha1, side_is b hb0 hb1]
  simp only [Option.bind_some]
  rw [mul64_is _ _ (by omega) (by omega) (by omega) (by omega), natAbs_mul_i]
  simp only [Option.bind_some]
  have hn := neg_mul_iff a b
  split
  · rename_i h
    congr 2
    rw [decide_eq_decide]
    rw [bits_or_pos (by omega) (by omega) (by omega) (by omega), hn]
    constructor
    · intro g; exact ⟨h, by omega⟩
    · intro g; have := g.2; omega
  · rename_i h
    congr 2
    have : ¬ a * b < 0 := fun g => h (hn.1 g).1
    simp [this]
theorem over_is (k : Nat) (x y : Bool) (a b : Int) :
    num_over.f (k + 2) x (a / 18446744073709551616) (a % 18446744073709551616) y (b / 18446744073709551616) (b % 18446744073709551616) = some (cmpI a b) := by
  unfold num_over.f
  simp only [num_over.j0, num_over.j1]
  unfold cmpI
  split
  · rename_i h
    simp only [h, Bool.false_eq_true, if_false, if_true]
    by_cases h1 : a % 18446744073709551616 < b % 18446744073709551616
    · simp only [h1, decide_true, if_true]
      rw [if_pos (by omega)]
    · simp only [h1, decide_false, Bool.false_eq_true, if_false]
      rw [if_neg (show ¬ a < b by omega)]
      by_cases h2 : a % 18446744073709551616 = b % 18446744073709551616
      · rw [if_pos h2, if_pos (by omega)]
      · rw [if_neg h2, if_neg (by omega)]
  · rename_i h
    by_cases h1 : a / 18446744073709551616 < b / 18446744073709551616
    · simp only [h1, decide_true, if_true]
      rw [if_pos (by omega)]
    · simp only [h1, decide_false, Bool.false_eq_true, if_false, h]
      rw [if_neg (show ¬ a < b by omega), if_neg (by omega)]
theorem cmpmul_is (k : Nat) (a b c d : Int) (ha0 : -9223372036854775808 ≤ a) (ha1 : a ≤ 9223372036854775807) (hb0 : -9223372036854775808 ≤ b) (hb1 : b ≤ 9223372036854775807)
    (hc0 : -9223372036854775808 ≤ c) (hc1 : c ≤ 9223372036854775807) (hd0 : -9223372036854775808 ≤ d) (hd1 : d ≤ 9223372036854775807) :
    num_CmpMul.f (k + 4) a b c d = some (cmpI (a * b) (c * d)) := by
  unfold num_CmpMul.f
  rw [product_is a b ha0 ha1 hb0 hb1, product_is c d hc0 hc1 hd0 hd1]
  generalize a * b = x
  generalize c * d = y
  simp only [Option.bind_some, num_CmpMul.j0, num_CmpMul.j1, over_is]
  unfold cmpI
  by_cases hx : x < 0 <;> by_cases hy : y < 0 <;> simp only [hx, hy, decide_true, decide_false, if_true, if_false, Bool.not_true, Bool.not_false, Bool.false_eq_true]
  · congr 1; repeat' split
    all_goals omega
  · congr 1; repeat' split
    all_goals omega
  · congr 1; repeat' split
    all_goals omega
  · congr 1; repeat' split
    all_goals omega

def sgn (n : Int) : Int := if n < 0 then -1 else if n > 0 then 1 else 0
abbrev inB (n a b : Int) : Prop := a ≤ n ∧ n ≤ b
abbrev goodP (A B P Q : Int) : Prop := inB A (-1000000000) 1000000000 ∧ inB B (-1000000000) 1000000000 ∧ inB P 0 1000000 ∧ inB Q 1 1000000
/-- The side of A + B times the root of P / Q. -/
def sgnS (A B P Q : Int) : Int :=
  if sgn A * (if P = 0 then 0 else sgn B) ≥ 0 then sgn (sgn A + (if P = 0 then 0 else sgn B)) else sgn A * cmpI (A * A * Q) (B * B * P)
theorem in_is (n a b : Int) : surd_in.f n a b = some (decide (inB n a b)) := by
  unfold surd_in.f inB
  split
  · rename_i h; congr 1; rw [decide_eq_decide]; omega
  · rename_i h; congr 1; symm; rw [decide_eq_false_iff_not]; omega
theorem root_is (p q : Int) : surd_root.f p q = some (decide (inB p 0 1000000 ∧ inB q 1 1000000)) := by
  unfold surd_root.f
  rw [in_is, in_is]
  simp only [Option.bind_some]
  by_cases h : inB p 0 1000000 <;> by_cases g : inB q 1 1000000 <;> simp [h, g]
theorem sgn_is (n : Int) : surd_side.f n = some (sgn n) := by
  unfold surd_side.f sgn; split <;> (try split) <;> rfl
theorem sgn_cases (n : Int) : sgn n = -1 ∧ n < 0 ∨ sgn n = 0 ∧ n = 0 ∨ sgn n = 1 ∧ 0 < n := by
  unfold sgn; repeat' split
  all_goals omega
theorem cmpI_cases (x y : Int) : cmpI x y = -1 ∧ x < y ∨ cmpI x y = 0 ∧ x = y ∨ cmpI x y = 1 ∧ y < x := by
  unfold cmpI; repeat' split
  all_goals omega

theorem good_is (A B P Q : Int) : surd_Good.f A B P Q = some (decide (goodP A B P Q)) := by
  unfold surd_Good.f goodP
  rw [in_is, in_is, root_is]
  simp only [Option.bind_some]
  by_cases h1 : inB A (-1000000000) 1000000000 <;> by_cases h2 : inB B (-1000000000) 1000000000 <;> by_cases h3 : inB P 0 1000000 ∧ inB Q 1 1000000 <;> simp [h1, h2, h3]
theorem sign_is (k : Nat) (A B P Q : Int) : surd_Sign.f (k + 5) A B P Q = some (if goodP A B P Q then sgnS A B P Q else 0) := by
  unfold surd_Sign.f
  rw [good_is, sgn_is, sgn_is]
  simp only [Option.bind_some, surd_Sign.j0, sgn_is]
  by_cases hg : goodP A B P Q
  · rw [if_pos hg, decide_eq_true hg]
    simp only [if_true]
    have hg' := hg
    unfold goodP inB at hg'
    obtain ⟨ha, hb, hp, hq⟩ := hg'
    have h1 := mul_bd (x := A) (y := A) 1000000000 1000000000 (by omega) (by omega) (by omega) (by omega)
    have h2 := mul_bd (x := B) (y := B) 1000000000 1000000000 (by omega) (by omega) (by omega) (by omega)
    rw [w64 (x := A * A) (by omega) (by omega), w64 (x := B * B) (by omega) (by omega)]
    rw [cmpmul_is k _ _ _ _ (by omega) (by omega) (by omega) (by omega) (by omega) (by omega) (by omega) (by omega)]
    simp only [Option.bind_some]
    unfold sgnS
    have hc := cmpI_cases (A * A * Q) (B * B * P)
    generalize cmpI (A * A * Q) (B * B * P) = c at hc ⊢
    have w : ∀ x : Int, -2 ≤ x → x ≤ 2 → wrap64 x = x := fun x h h' => w64 (by omega) (by omega)
    rcases sgn_cases A with ⟨e, _⟩ | ⟨e, _⟩ | ⟨e, _⟩ <;> rcases sgn_cases B with ⟨f, _⟩ | ⟨f, _⟩ | ⟨f, _⟩ <;> by_cases h0 : P = 0 <;> simp [e, f, h0, w]
    all_goals (rcases hc with ⟨hc, _⟩ | ⟨hc, _⟩ | ⟨hc, _⟩ <;> simp [hc, w])
  · rw [if_neg hg, decide_eq_false hg]
    simp only [Bool.false_eq_true, if_false]

abbrev aboveP (v w p q : Int) : Prop := inB v 0 1000000000 ∧ inB w 0 1000000000 ∧ inB p 0 1000000 ∧ inB q 1 1000000 ∧ w < v ∧ w * w * p < (v - w) * (v - w) * q
theorem sgnS_above (v w p q : Int) (hw : 0 ≤ w) (hp : 0 ≤ p) (hq : 1 ≤ q) : sgnS (v - w) (-w) p q > 0 ↔ w < v ∧ w * w * p < (v - w) * (v - w) * q := by
  have e : -w * -w = w * w := Int.neg_mul_neg w w
  have hpos : w < v → 0 < (v - w) * (v - w) * q := fun h => Int.mul_pos (Int.mul_pos (by omega) (by omega)) (by omega)
  unfold sgnS
  rw [e]
  have hc := cmpI_cases ((v - w) * (v - w) * q) (w * w * p)
  by_cases hp0 : p = 0
  · subst hp0
    rw [Int.mul_zero] at hc ⊢
    simp only [if_true, Int.mul_zero, Int.add_zero, ge_iff_le, Int.le_refl]
    rcases sgn_cases (v - w) with ⟨f, g⟩ | ⟨f, g⟩ | ⟨f, g⟩ <;> rw [f]
    · simp [sgn]; omega
    · simp [sgn]; omega
    · simp [sgn]; exact ⟨by omega, hpos (by omega)⟩
  · simp only [hp0, if_false]
    rcases sgn_cases (v - w) with ⟨f, g⟩ | ⟨f, g⟩ | ⟨f, g⟩ <;> rcases sgn_cases (-w) with ⟨f', g'⟩ | ⟨f', g'⟩ | ⟨f', g'⟩ <;> rw [f, f']
    · simp [sgn]; omega
    · simp [sgn]; omega
    · omega
    · simp [sgn]; omega
    · simp [sgn]; omega
    · omega
    · simp
      rcases hc with ⟨hc, _⟩ | ⟨hc, _⟩ | ⟨hc, _⟩ <;> rw [hc] <;> omega
    · have hw0 : w = 0 := by omega
      subst hw0
      simp [sgn]; exact ⟨by omega, by have := hpos (by omega); simpa using this⟩
    · omega
theorem above_is (k : Nat) (v w p q : Int) : surd_Above.f (k + 5) v w p q = some (decide (aboveP v w p q)) := by
  unfold surd_Above.f aboveP
  rw [in_is, in_is, root_is]
  simp only [Option.bind_some]
  by_cases h1 : inB v 0 1000000000 <;> by_cases h2 : inB w 0 1000000000 <;> by_cases h3 : inB p 0 1000000 <;> by_cases h4 : inB q 1 1000000 <;> simp [h1, h2, h3, h4]
  unfold inB at h1 h2 h3 h4
  rw [w64 (by omega) (by omega), w64 (by omega) (by omega), sign_is]
  have hg : goodP (v - w) (-w) p q := by unfold goodP inB; omega
  rw [if_pos hg]
  simp only [Option.bind_some, Option.some.injEq]
  have := sgnS_above v w p q (by omega) (by omega) (by omega)
  by_cases h : sgnS (v - w) (-w) p q > 0
  · simp [h, this.1 h]
  · simp only [h, decide_false]; symm; simp only [Bool.and_eq_false_iff, decide_eq_false_iff_not]
    by_cases h5 : w < v
    · right; intro h6; exact h (this.2 ⟨h5, h6⟩)
    · left; exact h5
theorem awake_is (k : Nat) : tocsinlaw2_awake.f (k + 5) = some true := by
  unfold tocsinlaw2_awake.f
  rw [above_is, above_is, sign_is, good_is]
  simp only [Option.bind_some]
  decide

abbrev boundP (v w p q : Int) : Prop := inB v 0 1000000000 ∧ inB w 0 1000000000 ∧ inB p 0 1000000 ∧ inB q 1 1000000 ∧ (v * q - w * q - w * p ≤ 0 ∨ (v * q - w * q - w * p) * (v * q - w * q - w * p) ≤ 4 * w * w * (p * q))
theorem bound_is (k : Nat) (v w p q : Int) : surd_Bound.f (k + 4) v w p q = some (decide (boundP v w p q)) := by
  unfold surd_Bound.f boundP
  rw [in_is, in_is, root_is]
  simp only [Option.bind_some]
  by_cases h1 : inB v 0 1000000000 <;> by_cases h2 : inB w 0 1000000000 <;> by_cases h3 : inB p 0 1000000 <;> by_cases h4 : inB q 1 1000000 <;> simp [h1, h2, h3, h4]
  unfold inB at h1 h2 h3 h4
  have b1 := mul_bd0 (x := v) (y := q) 1000000000 1000000 (by omega) (by omega) (by omega) (by omega)
  have b2 := mul_bd0 (x := w) (y := q) 1000000000 1000000 (by omega) (by omega) (by omega) (by omega)
  have b3 := mul_bd0 (x := w) (y := p) 1000000000 1000000 (by omega) (by omega) (by omega) (by omega)
  have b4 := mul_bd0 (x := p) (y := q) 1000000 1000000 (by omega) (by omega) (by omega) (by omega)
  have b5 := mul_bd0 (x := 4 * w) (y := w) 4000000000 1000000000 (by omega) (by omega) (by omega) (by omega)
  rw [w64 (x := v * q) (by omega) (by omega), w64 (x := w * q) (by omega) (by omega), w64 (x := w * p) (by omega) (by omega), w64 (x := p * q) (by omega) (by omega), w64 (x := 4 * w) (by omega) (by omega), w64 (x := 4 * w * w) (by omega) (by omega)]
  rw [w64 (x := v * q - w * q) (by omega) (by omega), w64 (x := v * q - w * q - w * p) (by omega) (by omega)]
  rw [cmpmul_is k _ _ _ _ (by omega) (by omega) (by omega) (by omega) (by omega) (by omega) (by omega) (by omega)]
  generalize v * q - w * q - w * p = a
  simp only [Option.bind_some]
  have hc := cmpI_cases (a * a) (4 * w * w * (p * q))
  by_cases ha : a ≤ 0
  · simp [ha]
  · simp only [ha, if_false, decide_false, Bool.false_or, Option.some.injEq, decide_eq_decide]
    omega

theorem mul_mono2 {a b c d : Int} (h0 : 0 ≤ a) (h1 : a ≤ b) (h2 : 0 ≤ c) (h3 : c ≤ d) : a * c ≤ b * d := Int.mul_le_mul h1 h3 h2 (Int.le_trans h0 h1)
theorem above_up {v w p q t : Int} (hv : v + t ≤ 1000000000) (ht : 0 ≤ t) (h : aboveP v w p q) : aboveP (v + t) w p q := by
  unfold aboveP inB at *
  refine ⟨by omega, by omega, by omega, by omega, by omega, ?_⟩
  have h1 := mul_mono2 (a := v - w) (b := v + t - w) (c := v - w) (d := v + t - w) (by omega) (by omega) (by omega) (by omega)
  have h2 := mul_mono2 (a := (v - w) * (v - w)) (b := (v + t - w) * (v + t - w)) (c := q) (d := q) (Int.mul_nonneg (by omega) (by omega)) h1 (by omega) (by omega)
  omega
theorem above_down {v w p q t : Int} (hw : 0 ≤ w) (ht : 0 ≤ t) (h : aboveP v (w + t) p q) : aboveP v w p q := by
  unfold aboveP inB at *
  refine ⟨by omega, by omega, by omega, by omega, by omega, ?_⟩
  have h1 := mul_mono2 (a := v - (w + t)) (b := v - w) (c := v - (w + t)) (d := v - w) (by omega) (by omega) (by omega) (by omega)
  have h2 := mul_mono2 (a := (v - (w + t)) * (v - (w + t))) (b := (v - w) * (v - w)) (c := q) (d := q) (Int.mul_nonneg (by omega) (by omega)) h1 (by omega) (by omega)
  have h3 := mul_mono2 (a := w) (b := w + t) (c := w) (d := w + t) (by omega) (by omega) (by omega) (by omega)
  have h4 := mul_mono2 (a := w * w) (b := (w + t) * (w + t)) (c := p) (d := p) (Int.mul_nonneg (by omega) (by omega)) h3 (by omega) (by omega)
  omega
theorem bound_down {v w p q t : Int} (hv : 0 ≤ v) (ht : 0 ≤ t) (h : boundP (v + t) w p q) : boundP v w p q := by
  unfold boundP inB at *
  refine ⟨by omega, by omega, by omega, by omega, ?_⟩
  have e : (v + t) * q = v * q + t * q := Int.add_mul v t q
  have e2 : 0 ≤ t * q := Int.mul_nonneg (by omega) (by omega)
  obtain ⟨_, _, _, _, h⟩ := h
  rw [e] at h
  by_cases ha : v * q - w * q - w * p ≤ 0
  · exact Or.inl ha
  · right
    have h1 := mul_mono2 (a := v * q - w * q - w * p) (b := v * q + t * q - w * q - w * p) (c := v * q - w * q - w * p) (d := v * q + t * q - w * q - w * p) (by omega) (by omega) (by omega) (by omega)
    rcases h with h | h <;> omega
theorem bound_up {v w p q t : Int} (hw : w + t ≤ 1000000000) (ht : 0 ≤ t) (h : boundP v w p q) : boundP v (w + t) p q := by
  unfold boundP inB at *
  refine ⟨by omega, by omega, by omega, by omega, ?_⟩
  have e : (w + t) * q = w * q + t * q := Int.add_mul w t q
  have e2 : 0 ≤ t * q := Int.mul_nonneg (by omega) (by omega)
  have f : (w + t) * p = w * p + t * p := Int.add_mul w t p
  have f2 : 0 ≤ t * p := Int.mul_nonneg (by omega) (by omega)
  obtain ⟨_, _, _, _, h⟩ := h
  rw [e, f]
  by_cases ha : v * q - (w * q + t * q) - (w * p + t * p) ≤ 0
  · exact Or.inl ha
  · right
    have h1 := mul_mono2 (a := v * q - (w * q + t * q) - (w * p + t * p)) (b := v * q - w * q - w * p) (c := v * q - (w * q + t * q) - (w * p + t * p)) (d := v * q - w * q - w * p) (by omega) (by omega) (by omega) (by omega)
    have h3 := mul_mono2 (a := 4 * w) (b := 4 * (w + t)) (c := w) (d := w + t) (by omega) (by omega) (by omega) (by omega)
    have h4 := mul_mono2 (a := 4 * w * w) (b := 4 * (w + t) * (w + t)) (c := p * q) (d := p * q) (Int.mul_nonneg (by omega) (by omega)) h3 (Int.mul_nonneg (by omega) (by omega)) (Int.le_refl _)
    rcases h with h | h <;> omega
def aB (v w p q : Int) : Bool := decide (aboveP v w p q)
def bB (v w p q : Int) : Bool := decide (boundP v w p q)
theorem Awake_any (W : World) : Calls Try.prog 10 #[] W fun e w' => e = .returned (.bool true) ∧ Below W.heap.size W w' := tocsinlaw2_awake.calls 5 true W (awake_is 0)
theorem Above_any (v w p q : Int) (W : World) : Calls Try.prog 13 #[.int .i64 v, .int .i64 w, .int .i64 p, .int .i64 q] W fun e w' => e = .returned (.bool (aB v w p q)) ∧ Below W.heap.size W w' := surd_Above.calls 5 v w p q _ W (above_is 0 v w p q)
theorem Bound_any (v w p q : Int) (W : World) : Calls Try.prog 14 #[.int .i64 v, .int .i64 w, .int .i64 p, .int .i64 q] W fun e w' => e = .returned (.bool (bB v w p q)) ∧ Below W.heap.size W w' := surd_Bound.calls 4 v w p q _ W (bound_is 0 v w p q)
set_option maxHeartbeats 4000000
theorem grows_out (v w p q t : Int) (W : World) (h : v < 0 ∨ w < 0 ∨ t < 0 ∨ 100000000 < v ∨ 100000000 < w ∨ 100000000 < t) :
    Calls Try.prog 5 #[.int .i64 v, .int .i64 w, .int .i64 p, .int .i64 q, .int .i64 t] W fun e w' => e = .returned (.bool true) ∧ Below W.heap.size W w' := by
  have HB := Aside0.mk (Below.refl W.heap.size W)
  by_cases a1 : v < 0
  · go_enter Try.func5, Try.ntmps5
    go_wp2_with (first | (go_at_call 10; (with_reducible refine (Awake_any _).mono ?_); rintro e w7 ⟨rfl, hb⟩; have n0_ := Aside0.mk (below_step (by repeat (first | (with_reducible first | exact HB.out | apply below_alloc | apply pw_below_drewN | apply below_drew1) | exact HB.out)) hb); clear HB; have HB := n0_; clear n0_ hb))
    go_ret
    exact ⟨rfl, HB.out⟩
  by_cases a2 : w < 0
  · go_enter Try.func5, Try.ntmps5
    go_wp2_with (first | (go_at_call 10; (with_reducible refine (Awake_any _).mono ?_); rintro e w7 ⟨rfl, hb⟩; have n0_ := Aside0.mk (below_step (by repeat (first | (with_reducible first | exact HB.out | apply below_alloc | apply pw_below_drewN | apply below_drew1) | exact HB.out)) hb); clear HB; have HB := n0_; clear n0_ hb))
    go_ret
    exact ⟨rfl, HB.out⟩
  by_cases a3 : t < 0
  · go_enter Try.func5, Try.ntmps5
    go_wp2_with (first | (go_at_call 10; (with_reducible refine (Awake_any _).mono ?_); rintro e w7 ⟨rfl, hb⟩; have n0_ := Aside0.mk (below_step (by repeat (first | (with_reducible first | exact HB.out | apply below_alloc | apply pw_below_drewN | apply below_drew1) | exact HB.out)) hb); clear HB; have HB := n0_; clear n0_ hb))
    go_ret
    exact ⟨rfl, HB.out⟩
  by_cases a4 : 100000000 < v
  · go_enter Try.func5, Try.ntmps5
    go_wp2_with (first | (go_at_call 10; (with_reducible refine (Awake_any _).mono ?_); rintro e w7 ⟨rfl, hb⟩; have n0_ := Aside0.mk (below_step (by repeat (first | (with_reducible first | exact HB.out | apply below_alloc | apply pw_below_drewN | apply below_drew1) | exact HB.out)) hb); clear HB; have HB := n0_; clear n0_ hb))
    go_ret
    exact ⟨rfl, HB.out⟩
  by_cases a5 : 100000000 < w
  · go_enter Try.func5, Try.ntmps5
    go_wp2_with (first | (go_at_call 10; (with_reducible refine (Awake_any _).mono ?_); rintro e w7 ⟨rfl, hb⟩; have n0_ := Aside0.mk (below_step (by repeat (first | (with_reducible first | exact HB.out | apply below_alloc | apply pw_below_drewN | apply below_drew1) | exact HB.out)) hb); clear HB; have HB := n0_; clear n0_ hb))
    go_ret
    exact ⟨rfl, HB.out⟩
  by_cases a6 : 100000000 < t
  · go_enter Try.func5, Try.ntmps5
    go_wp2_with (first | (go_at_call 10; (with_reducible refine (Awake_any _).mono ?_); rintro e w7 ⟨rfl, hb⟩; have n0_ := Aside0.mk (below_step (by repeat (first | (with_reducible first | exact HB.out | apply below_alloc | apply pw_below_drewN | apply below_drew1) | exact HB.out)) hb); clear HB; have HB := n0_; clear n0_ hb))
    go_ret
    exact ⟨rfl, HB.out⟩
  omega
abbrev AboveC (v w p q : Int) (r : Bool) : Prop := ∀ W, Calls Try.prog 13 #[.int .i64 v, .int .i64 w, .int .i64 p, .int .i64 q] W fun e w' => e = .returned (.bool r) ∧ Below W.heap.size W w'
abbrev BoundC (v w p q : Int) (r : Bool) : Prop := ∀ W, Calls Try.prog 14 #[.int .i64 v, .int .i64 w, .int .i64 p, .int .i64 q] W fun e w' => e = .returned (.bool r) ∧ Below W.heap.size W w'
structure Inn (v w p q t : Int) (A1 A2 A3 B1 B2 B3 : Bool) : Prop where
  v0 : 0 ≤ v
  w0 : 0 ≤ w
  t0 : 0 ≤ t
  v1 : v ≤ 100000000
  w1 : w ≤ 100000000
  t1 : t ≤ 100000000
  a1 : AboveC v w p q A1
  a2 : AboveC (v + t) w p q A2
  a3 : AboveC v (w + t) p q A3
  b1 : BoundC (v + t) w p q B1
  b2 : BoundC v w p q B2
  b3 : BoundC v (w + t) p q B3
def Goal (v w p q t : Int) : Prop := ∀ W : World, Calls Try.prog 5 #[.int .i64 v, .int .i64 w, .int .i64 p, .int .i64 q, .int .i64 t] W fun e w' => e = .returned (.bool true) ∧ Below W.heap.size W w'

end Go.Proofs.Ytfgilibcekfibaa.Pure
