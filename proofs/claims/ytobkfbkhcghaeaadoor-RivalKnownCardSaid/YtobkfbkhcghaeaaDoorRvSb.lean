/- surd.Bound in plain words, for rival.Beats (law24). -/
import Derived.Test.YtobkfbkhcghaeaaDoorPSbx2
namespace Go.Proofs.YtobkfbkhcghaeaaDoor.PSb
open Go.RowKit Go.Proofs.YtobkfbkhcghaeaaDoor.PSb Go.Proofs.YtobkfbkhcghaeaaDoorW.PrintWords Go.Proofs.YtobkfbkhcghaeaaDoorW.PrintLast Go.Proofs.YtobkfbkhcghaeaaDoorW.PrintMore 
set_option linter.unusedVariables false
set_option linter.unusedSimpArgs false

theorem w64 {x : Int} (h0 : -9223372036854775808 ≤ x) (h1 : x ≤ 9223372036854775807) : wrap64 x = x := by unfold wrap64; omega
theorem wu64 {x : Int} (h0 : 0 ≤ x) (h1 : x < 18446744073709551616) : IntKind.u64.wrap x = x := by rw [IntKind.wrap_u64]; omega
theorem wf_i64 {a : Int} (h : (Lit.int .i64 a).wf = true) : -9223372036854775808 ≤ a ∧ a ≤ 9223372036854775807 := by
  simp [Lit.wf, IntKind.min, IntKind.max, IntKind.signed, IntKind.bits] at h
  omega
theorem mul_bd {x y : Int} (a b : Int) (h1 : -a ≤ x) (h2 : x ≤ a) (h3 : -b ≤ y) (h4 : y ≤ b) : -(a * b) ≤ x * y ∧ x * y ≤ a * b := by
  have hx : x.natAbs ≤ a.natAbs := by omega
  have hy : y.natAbs ≤ b.natAbs := by omega
  have h := Nat.mul_le_mul hx hy
  rw [← Int.natAbs_mul, ← Int.natAbs_mul] at h
  have ha : 0 ≤ a * b := Int.mul_nonneg (by omega) (by omega)
  omega
theorem mul_bd0 {x y : Int} (a b : Int) (h1 : 0 ≤ x) (h2 : x ≤ a) (h3 : 0 ≤ y) (h4 : y ≤ b) : 0 ≤ x * y ∧ x * y ≤ a * b :=
  ⟨Int.mul_nonneg h1 h3, Int.mul_le_mul h2 h4 h3 (Int.le_trans h1 h2)⟩
theorem g_if {c : Prop} [Decidable c] {X : Option Bool} (h : ¬ c → X = some true) : (if c then some true else X) = some true := by
  by_cases g : c
  · rw [if_pos g]
  · rw [if_neg g]; exact h g

theorem mask32 {x : Int} (h0 : 0 ≤ x) (h1 : x < 18446744073709551616) : Go.bits .and .u64 x 4294967295 = x % 4294967296 :=
  bits_mask .u64 64 (by decide) (fun n h h' => by rw [IntKind.wrap_u64]; omega) 32 (by decide) x h0 h1
theorem bits_or_pos {x y : Int} (hx0 : 0 ≤ x) (hx1 : x < 18446744073709551616) (hy0 : 0 ≤ y) (hy1 : y < 18446744073709551616) : (Go.bits .or .u64 x y > 0) ↔ (x ≠ 0 ∨ y ≠ 0) := by
  obtain ⟨a, rfl⟩ := Int.eq_ofNat_of_zero_le hx0
  obtain ⟨b, rfl⟩ := Int.eq_ofNat_of_zero_le hy0
  rw [(bits_nat .u64 64 (by decide) (fun n h h' => by rw [IntKind.wrap_u64]; omega) a b (by omega) (by omega)).2]
  have h1 : a ≤ a ||| b := Nat.left_le_or
  have h2 : b ≤ a ||| b := Nat.right_le_or
  constructor
  · intro h
    by_cases ha : a = 0
    · subst ha
      right
      rw [Nat.zero_or] at h
      omega
    · left; omega
  · intro h; omega
theorem mul_parts {a b : Int} (ha0 : 0 ≤ a) (ha1 : a < 18446744073709551616) (hb0 : 0 ≤ b) (hb1 : b < 18446744073709551616) :
    ∃ p q r s : Int, (a / 4294967296) * (b / 4294967296) = p ∧ (a / 4294967296) * (b % 4294967296) = q ∧ (a % 4294967296) * (b / 4294967296) = r ∧ (a % 4294967296) * (b % 4294967296) = s ∧
      a * b = p * 18446744073709551616 + (q + r) * 4294967296 + s ∧ 0 ≤ p ∧ p ≤ 18446744065119617025 ∧ 0 ≤ q ∧ q ≤ 18446744065119617025 ∧ 0 ≤ r ∧ r ≤ 18446744065119617025 ∧ 0 ≤ s ∧ s ≤ 18446744065119617025 := by
  have e : a = (a / 4294967296) * 4294967296 + a % 4294967296 := by omega
  have f : b = (b / 4294967296) * 4294967296 + b % 4294967296 := by omega
  refine ⟨_, _, _, _, rfl, rfl, rfl, rfl, ?_, ?_⟩
  · have g : ((a / 4294967296) * 4294967296 + a % 4294967296) * ((b / 4294967296) * 4294967296 + b % 4294967296) = (a / 4294967296) * (b / 4294967296) * 18446744073709551616 + ((a / 4294967296) * (b % 4294967296) + (a % 4294967296) * (b / 4294967296)) * 4294967296 + (a % 4294967296) * (b % 4294967296) := by
      generalize a / 4294967296 = x; generalize a % 4294967296 = y; generalize b / 4294967296 = z; generalize b % 4294967296 = t
      grind
    rw [← e, ← f] at g
    exact g
  · have h1 := mul_bd0 (x := a / 4294967296) (y := b / 4294967296) 4294967295 4294967295 (by omega) (by omega) (by omega) (by omega)
    have h2 := mul_bd0 (x := a / 4294967296) (y := b % 4294967296) 4294967295 4294967295 (by omega) (by omega) (by omega) (by omega)
    have h3 := mul_bd0 (x := a % 4294967296) (y := b / 4294967296) 4294967295 4294967295 (by omega) (by omega) (by omega) (by omega)
    have h4 := mul_bd0 (x := a % 4294967296) (y := b % 4294967296) 4294967295 4294967295 (by omega) (by omega) (by omega) (by omega)
    omega
theorem mul64_is (a b : Int) (ha0 : 0 ≤ a) (ha1 : a < 18446744073709551616) (hb0 : 0 ≤ b) (hb1 : b < 18446744073709551616) :
    bits_Mul64.f a b = some (a * b / 18446744073709551616, a * b % 18446744073709551616) := by
  obtain ⟨p, q, r, s, hp, hq, hr, hs, he, b1⟩ := mul_parts ha0 ha1 hb0 hb1
  unfold bits_Mul64.f
  rw [mask32 ha0 ha1, mask32 hb0 hb1, hp, hq, hr, hs, he]
  simp only [IntKind.wrap_u64]
  rw [mask32 (by omega) (by omega)]
  congr 2 <;> omega

/-- How one number compares to another. -/
def cmpI (x y : Int) : Int := if x < y then -1 else if x = y then 0 else 1
/-- A number of 128 bits, its side first. -/
theorem side_is (a : Int) (h0 : -9223372036854775808 ≤ a) (h1 : a ≤ 9223372036854775807) : num_side.f a = some (a.natAbs : Int) := by
  unfold num_side.f
  simp only [IntKind.wrap_u64]
  split <;> (congr 1; omega)
theorem natAbs_mul_i (a b : Int) : (a.natAbs : Int) * (b.natAbs : Int) = ((a * b).natAbs : Int) := by
  rw [Int.natAbs_mul]; simp
theorem natAbs_bd (a b : Int) (ha0 : -9223372036854775808 ≤ a) (ha1 : a ≤ 9223372036854775807) (hb0 : -9223372036854775808 ≤ b) (hb1 : b ≤ 9223372036854775807) : ((a * b).natAbs : Int) ≤ 85070591730234615865843651857942052864 := by
  have := mul_bd (x := a) (y := b) 9223372036854775808 9223372036854775808 (by omega) (by omega) (by omega) (by omega)
  omega
theorem neg_mul_iff (a b : Int) : (a * b < 0) ↔ ((decide (a < 0)) != (decide (b < 0))) = true ∧ a * b ≠ 0 := by
  rcases Int.lt_trichotomy a 0 with h | h | h <;> rcases Int.lt_trichotomy b 0 with g | g | g
  · have := Int.mul_pos_of_neg_of_neg h g
    simp [h, g]; omega
  · subst g; simp
  · have := Int.mul_neg_of_neg_of_pos h g
    have hb : ¬ b < 0 := by omega
    simp [h, hb]; omega
  · subst h; simp
  · subst h; simp
  · subst h; simp
  · have := Int.mul_neg_of_pos_of_neg h g
    have ha : ¬ a < 0 := by omega
    simp [g, ha]; omega
  · subst g; simp
  · have := Int.mul_pos h g
    have ha : ¬ a < 0 := by omega
    have hb : ¬ b < 0 := by omega
    simp [ha, hb]; omega
theorem product_is (a b : Int) (ha0 : -9223372036854775808 ≤ a) (ha1 : a ≤ 9223372036854775807) (hb0 : -9223372036854775808 ≤ b) (hb1 : b ≤ 9223372036854775807) :
    num_product.f a b = some (decide (a * b < 0), ((a * b).natAbs : Int) / 18446744073709551616, ((a * b).natAbs : Int) % 18446744073709551616) := by
  have hbd := natAbs_bd a b ha0 ha1 hb0 hb1
  unfold num_product.f
  rw [side_is a ha0 ha1, side_is b hb0 hb1]
  simp only [Option.bind_some]
  rw [mul64_is _ _ (by omega) (by omega) (by omega) (by omega), natAbs_mul_i]
  simp only [Option.bind_some]
  have hn := neg_mul_iff a b
  split
  · rename_i h
    congr 2
    rw [decide_eq_decide]
    rw [bits_or_pos (by omega) (by omega) (by omega) (by omega), hn]
    constructor
    · intro g; exact ⟨h, by omega⟩
    · intro g; have := g.2; omega
  · rename_i h
    congr 2
    have : ¬ a * b < 0 := fun g => h (hn.1 g).1
    simp [this]
theorem over_is (k : Nat) (x y : Bool) (a b : Int) :
    num_over.f (k + 2) x (a / 18446744073709551616) (a % 18446744073709551616) y (b / 18446744073709551616) (b % 18446744073709551616) = some (cmpI a b) := by
  unfold num_over.f
  simp only [num_over.j0, num_over.j1]
  unfold cmpI
  split
  · rename_i h
    simp only [h, Bool.false_eq_true, if_false, if_true]
    by_cases h1 : a % 18446744073709551616 < b % 18446744073709551616
    · simp only [h1, decide_true, if_true]
      rw [if_pos (by omega)]
    · simp only [h1, decide_false, Bool.false_eq_true, if_false]
      rw [if_neg (show ¬ a < b by omega)]
      by_cases h2 : a % 18446744073709551616 = b % 18446744073709551616
      · rw [if_pos h2, if_pos (by omega)]
      · rw [if_neg h2, if_neg (by omega)]
  · rename_i h
    by_cases h1 : a / 18446744073709551616 < b / 18446744073709551616
    · simp only [h1, decide_true, if_true]
      rw [if_pos (by omega)]
    · simp only [h1, decide_false, Bool.false_eq_true, if_false, h]
      rw [if_neg (show ¬ a < b by omega), if_neg (by omega)]
theorem cmpmul_is (k : Nat) (a b c d : Int) (ha0 : -9223372036854775808 ≤ a) (ha1 : a ≤ 9223372036854775807) (hb0 : -9223372036854775808 ≤ b) (hb1 : b ≤ 9223372036854775807)
    (hc0 : -9223372036854775808 ≤ c) (hc1 : c ≤ 9223372036854775807) (hd0 : -9223372036854775808 ≤ d) (hd1 : d ≤ 9223372036854775807) :
    num_CmpMul.f (k + 4) a b c d = some (cmpI (a * b) (c * d)) := by
  unfold num_CmpMul.f
  rw [product_is a b ha0 ha1 hb0 hb1, product_is c d hc0 hc1 hd0 hd1]
  generalize a * b = x
  generalize c * d = y
  simp only [Option.bind_some, num_CmpMul.j0, num_CmpMul.j1, over_is]
  unfold cmpI
  by_cases hx : x < 0 <;> by_cases hy : y < 0 <;> simp only [hx, hy, decide_true, decide_false, if_true, if_false, Bool.not_true, Bool.not_false, Bool.false_eq_true]
  · congr 1; repeat' split
    all_goals omega
  · congr 1; repeat' split
    all_goals omega
  · congr 1; repeat' split
    all_goals omega
  · congr 1; repeat' split
    all_goals omega

abbrev inB (n a b : Int) : Prop := a ≤ n ∧ n ≤ b
theorem in_is (n a b : Int) : surd_in.f n a b = some (decide (inB n a b)) := by
  unfold surd_in.f inB
  split
  · rename_i h; congr 1; rw [decide_eq_decide]; omega
  · rename_i h; congr 1; symm; rw [decide_eq_false_iff_not]; omega
theorem root_is (p q : Int) : surd_root.f p q = some (decide (inB p 0 1000000 ∧ inB q 1 1000000)) := by
  unfold surd_root.f
  rw [in_is, in_is]
  simp only [Option.bind_some]
  by_cases h : inB p 0 1000000 <;> by_cases g : inB q 1 1000000 <;> simp [h, g]
theorem cmpI_cases (x y : Int) : cmpI x y = -1 ∧ x < y ∨ cmpI x y = 0 ∧ x = y ∨ cmpI x y = 1 ∧ y < x := by
  unfold cmpI; repeat' split
  all_goals omega

abbrev boundP (v w p q : Int) : Prop := inB v 0 1000000000 ∧ inB w 0 1000000000 ∧ inB p 0 1000000 ∧ inB q 1 1000000 ∧ (v * q - w * q - w * p ≤ 0 ∨ (v * q - w * q - w * p) * (v * q - w * q - w * p) ≤ 4 * w * w * (p * q))
theorem bound_is (k : Nat) (v w p q : Int) : surd_Bound.f (k + 4) v w p q = some (decide (boundP v w p q)) := by
  unfold surd_Bound.f boundP
  rw [in_is, in_is, root_is]
  simp only [Option.bind_some]
  by_cases h1 : inB v 0 1000000000 <;> by_cases h2 : inB w 0 1000000000 <;> by_cases h3 : inB p 0 1000000 <;> by_cases h4 : inB q 1 1000000 <;> simp [h1, h2, h3, h4]
  unfold inB at h1 h2 h3 h4
  have b1 := mul_bd0 (x := v) (y := q) 1000000000 1000000 (by omega) (by omega) (by omega) (by omega)
  have b2 := mul_bd0 (x := w) (y := q) 1000000000 1000000 (by omega) (by omega) (by omega) (by omega)
  have b3 := mul_bd0 (x := w) (y := p) 1000000000 1000000 (by omega) (by omega) (by omega) (by omega)
  have b4 := mul_bd0 (x := p) (y := q) 1000000 1000000 (by omega) (by omega) (by omega) (by omega)
  have b5 := mul_bd0 (x := 4 * w) (y := w) 4000000000 1000000000 (by omega) (by omega) (by omega) (by omega)
  rw [w64 (x := v * q) (by omega) (by omega), w64 (x := w * q) (by omega) (by omega), w64 (x := w * p) (by omega) (by omega), w64 (x := p * q) (by omega) (by omega), w64 (x := 4 * w) (by omega) (by omega), w64 (x := 4 * w * w) (by omega) (by omega)]
  rw [w64 (x := v * q - w * q) (by omega) (by omega), w64 (x := v * q - w * q - w * p) (by omega) (by omega)]
  rw [cmpmul_is k _ _ _ _ (by omega) (by omega) (by omega) (by omega) (by omega) (by omega) (by omega) (by omega)]
  generalize v * q - w * q - w * p = a
  simp only [Option.bind_some]
  have hc := cmpI_cases (a * a) (4 * w * w * (p * q))
  by_cases ha : a ≤ 0
  · simp [ha]
  · simp only [ha, if_false, decide_false, Bool.false_or, Option.some.injEq, decide_eq_decide]
    omega

theorem bound_c (v w p q : Int) (W : World) : Calls Tryd.prog 27 #[.int .i64 v, .int .i64 w, .int .i64 p, .int .i64 q] W fun e w' => e = .returned (.bool (decide (boundP v w p q))) ∧ Below W.heap.size W w' :=
  surd_Bound.calls 4 v w p q _ W (bound_is 0 v w p q)

end Go.Proofs.YtobkfbkhcghaeaaDoor.PSb
