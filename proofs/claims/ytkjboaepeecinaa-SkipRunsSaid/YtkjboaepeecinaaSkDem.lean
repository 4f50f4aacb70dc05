/- What package demand's functions, and the reference's, come to, in plain numbers. -/
import Derived.Test.YtkjboaepeecinaaPSkx3
namespace Go.Proofs.Ytkjboaepeecinaa.Pure
open Go.RowKit Go.Proofs.Ytkjboaepeecinaa.PSk Go.Proofs.YtkjboaepeecinaaW.PrintWords Go.Proofs.YtkjboaepeecinaaW.PrintLast Go.Proofs.YtkjboaepeecinaaW.PrintMore 
set_option linter.unusedVariables false
set_option linter.unusedSimpArgs false

theorem w64 {x : Int} (h0 : -9223372036854775808 ≤ x) (h1 : x ≤ 9223372036854775807) : wrap64 x = x := by unfold wrap64; omega
theorem wu64 {x : Int} (h0 : 0 ≤ x) (h1 : x < 18446744073709551616) : IntKind.u64.wrap x = x := by rw [IntKind.wrap_u64]; omega
theorem wf_i64 {a : Int} (h : (Lit.int .i64 a).wf = true) : -9223372036854775808 ≤ a ∧ a ≤ 9223372036854775807 := by
  simp [Lit.wf, IntKind.min, IntKind.max, IntKind.signed, IntKind.bits] at h
  omega
theorem mul_bd {x y : Int} (a b : Int) (h1 : -a ≤ x) (h2 : x ≤ a) (h3 : -b ≤ y) (h4 : y ≤ b) : -(a * b) ≤ x * y ∧ x * y ≤ a * b := by
  have hx : x.natAbs ≤ a.natAbs := by omega
  have hy : y.natAbs ≤ b.natAbs := by omega
  have h := Nat.mul_le_mul hx hy
  rw [← Int.natAbs_mul, ← Int.natAbs_mul] at h
  have ha : 0 ≤ a * b := Int.mul_nonneg (by omega) (by omega)
  omega
theorem mul_bd0 {x y : Int} (a b : Int) (h1 : 0 ≤ x) (h2 : x ≤ a) (h3 : 0 ≤ y) (h4 : y ≤ b) : 0 ≤ x * y ∧ x * y ≤ a * b :=
  ⟨Int.mul_nonneg h1 h3, Int.mul_le_mul h2 h4 h3 (Int.le_trans h1 h2)⟩
theorem g_if {c : Prop} [Decidable c] {X : Option Bool} (h : ¬ c → X = some true) : (if c then some true else X) = some true := by
  by_cases g : c
  · rw [if_pos g]
  · rw [if_neg g]; exact h g

def fits (x : Int) : Prop := -9223372036854775808 ≤ x ∧ x ≤ 9223372036854775807
instance (x : Int) : Decidable (fits x) := by unfold fits; infer_instance
/-- A number, if 64 bits hold it. -/
def held64 (x : Int) : Int × Bool := if fits x then (x, true) else (0, false)
theorem held64_in {x : Int} (h0 : -9223372036854775808 ≤ x) (h1 : x ≤ 9223372036854775807) : held64 x = (x, true) := by
  unfold held64; rw [if_pos (show fits x from ⟨h0, h1⟩)]
theorem held64_out {x : Int} (h : x < -9223372036854775808 ∨ 9223372036854775807 < x) : held64 x = (0, false) := by
  unfold held64; rw [if_neg (by unfold fits; omega)]

theorem mask32 {x : Int} (h0 : 0 ≤ x) (h1 : x < 18446744073709551616) : Go.bits .and .u64 x 4294967295 = x % 4294967296 :=
  bits_mask .u64 64 (by decide) (fun n h h' => by rw [IntKind.wrap_u64]; omega) 32 (by decide) x h0 h1
theorem bits_or_pos {x y : Int} (hx0 : 0 ≤ x) (hx1 : x < 18446744073709551616) (hy0 : 0 ≤ y) (hy1 : y < 18446744073709551616) : (Go.bits .or .u64 x y > 0) ↔ (x ≠ 0 ∨ y ≠ 0) := by
  obtain ⟨a, rfl⟩ := Int.eq_ofNat_of_zero_le hx0
  obtain ⟨b, rfl⟩ := Int.eq_ofNat_of_zero_le hy0
  rw [(bits_nat .u64 64 (by decide) (fun n h h' => by rw [IntKind.wrap_u64]; omega) a b (by omega) (by omega)).2]
  have h1 : a ≤ a ||| b := Nat.left_le_or
  have h2 : b ≤ a ||| b := Nat.right_le_or
  constructor
  · intro h
    by_cases ha : a = 0
    · subst ha
      right
      rw [Nat.zero_or] at h
      omega
    · left; omega
  · intro h; omega
theorem mul_parts {a b : Int} (ha0 : 0 ≤ a) (ha1 : a < 18446744073709551616) (hb0 : 0 ≤ b) (hb1 : b < 18446744073709551616) :
    ∃ p q r s : Int, (a / 4294967296) * (b / 4294967296) = p ∧ (a / 4294967296) * (b % 4294967296) = q ∧ (a % 4294967296) * (b / 4294967296) = r ∧ (a % 4294967296) * (b % 4294967296) = s ∧
      a * b = p * 18446744073709551616 + (q + r) * 4294967296 + s ∧ 0 ≤ p ∧ p ≤ 18446744065119617025 ∧ 0 ≤ q ∧ q ≤ 18446744065119617025 ∧ 0 ≤ r ∧ r ≤ 18446744065119617025 ∧ 0 ≤ s ∧ s ≤ 18446744065119617025 := by
  have e : a = (a / 4294967296) * 4294967296 + a % 4294967296 := by omega
  have f : b = (b / 4294967296) * 4294967296 + b % 4294967296 := by omega
  refine ⟨_, _, _, _, rfl, rfl, rfl, rfl, ?_, ?_⟩
  · have g : ((a / 4294967296) * 4294967296 + a % 4294967296) * ((b / 4294967296) * 4294967296 + b % 4294967296) = (a / 4294967296) * (b / 4294967296) * 18446744073709551616 + ((a / 4294967296) * (b % 4294967296) + (a % 4294967296) * (b / 4294967296)) * 4294967296 + (a % 4294967296) * (b % 4294967296) := by
      generalize a / 4294967296 = x; generalize a % 4294967296 = y; generalize b / 4294967296 = z; generalize b % 4294967296 = t
      grind
    rw [← e, ← f] at g
    exact g
  · have h1 := mul_bd0 (x := a / 4294967296) (y := b / 4294967296) 4294967295 4294967295 (by omega) (by omega) (by omega) (by omega)
    have h2 := mul_bd0 (x := a / 4294967296) (y := b % 4294967296) 4294967295 4294967295 (by omega) (by omega) (by omega) (by omega)
    have h3 := mul_bd0 (x := a % 4294967296) (y := b / 4294967296) 4294967295 4294967295 (by omega) (by omega) (by omega) (by omega)
    have h4 := mul_bd0 (x := a % 4294967296) (y := b % 4294967296) 4294967295 4294967295 (by omega) (by omega) (by omega) (by omega)
    omega
theorem mul64_is (a b : Int) (ha0 : 0 ≤ a) (ha1 : a < 18446744073709551616) (hb0 : 0 ≤ b) (hb1 : b < 18446744073709551616) :
    bits_Mul64.f a b = some (a * b / 18446744073709551616, a * b % 18446744073709551616) := by
  obtain ⟨p, q, r, s, hp, hq, hr, hs, he, b1⟩ := mul_parts ha0 ha1 hb0 hb1
  unfold bits_Mul64.f
  rw [mask32 ha0 ha1, mask32 hb0 hb1, hp, hq, hr, hs, he]
  simp only [IntKind.wrap_u64]
  rw [mask32 (by omega) (by omega)]
  congr 2 <;> omega

/-- How one number compares to another. -/
def cmpI (x y : Int) : Int := if x < y then -1 else if x = y then 0 else 1
/-- A number of 128 bits, its side first. -/
theorem side_is (a : Int) (h0 : -9223372036854775808 ≤ a) (h1 : a ≤ 9223372036854775807) : num_side.f a = some (a.natAbs : Int) := by
  unfold num_side.f
  simp only [IntKind.wrap_u64]
  split <;> (congr 1; omega)
theorem natAbs_mul_i (a b : Int) : (a.natAbs : Int) * (b.natAbs : Int) = ((a * b).natAbs : Int) := by
  rw [Int.natAbs_mul]; simp
theorem natAbs_bd (a b : Int) (ha0 : -9223372036854775808 ≤ a) (ha1 : a ≤ 9223372036854775807) (hb0 : -9223372036854775808 ≤ b) (hb1 : b ≤ 9223372036854775807) : ((a * b).natAbs : Int) ≤ 85070591730234615865843651857942052864 := by
  have := mul_bd (x := a) (y := b) 9223372036854775808 9223372036854775808 (by omega) (by omega) (by omega) (by omega)
  omega
theorem neg_mul_iff (a b : Int) : (a * b < 0) ↔ ((decide (a < 0)) != (decide (b < 0))) = true ∧ a * b ≠ 0 := by
  rcases Int.lt_trichotomy a 0 with h | h | h <;> rcases Int.lt_trichotomy b 0 with g | g | g
  · have := Int.mul_pos_of_neg_of_neg h g
    simp [h, g]; omega
  · subst g; simp
  · have := Int.mul_neg_of_neg_of_pos h g
    have hb : ¬ b < 0 := by omega
    simp [h, hb]; omega
  · subst h; simp
  · subst h; simp
  · subst h; simp
  · have := Int.mul_neg_of_pos_of_neg h g
    have ha : ¬ a < 0 := by omega
    simp [g, ha]; omega
  · subst g; simp
  · have := Int.mul_pos h g
    have ha : ¬ a < 0 := by omega
    have hb : ¬ b < 0 := by omega
    simp [ha, hb]; omega
theorem product_is (a b : Int) (ha0 : -9223372036854775808 ≤ a) (ha1 : a ≤ 9223372036854775807) (hb0 : -9223372036854775808 ≤ b) (hb1 : b ≤ 9223372036854775807) :
    num_product.f a b = some (decide (a * b < 0), ((a * b).natAbs : Int) / 18446744073709551616, ((a * b).natAbs : Int) % 18446744073709551616) := by
  have hbd := natAbs_bd a b ha0 ha1 hb0 hb1
  unfold num_product.f
  rw [side_is a ha0 ha1, side_is b hb0 hb1]
  simp only [Option.bind_some]
  rw [mul64_is _ _ (by omega) (by omega) (by omega) (by omega), natAbs_mul_i]
  simp only [Option.bind_some]
  have hn := neg_mul_iff a b
  split
  · rename_i h
    congr 2
    rw [decide_eq_decide]
    rw [bits_or_pos (by omega) (by omega) (by omega) (by omega), hn]
    constructor
    · intro g; exact ⟨h, by omega⟩
    · intro g; have := g.2; omega
  · rename_i h
    congr 2
    have : ¬ a * b < 0 := fun g => h (hn.1 g).1
    simp [this]

/-- What 64 bits hold of a size with a side. -/
theorem held_is (k : Nat) (bl : Bool) (u : Int) (h0 : 0 ≤ u) (h1 : u < 18446744073709551616) : num_held.f (k + 1) bl u = some (held64 (if bl = true then -u else u)) := by
  unfold num_held.f
  cases bl
  · simp only [Bool.false_eq_true, if_false, num_held.j0]
    by_cases h : u ≤ 9223372036854775807
    · rw [if_pos h, held64_in (by omega) h, w64 (by omega) h]
    · rw [if_neg h, held64_out (by omega)]
  · simp only [if_true, num_held.j0, decide_eq_true_eq]
    by_cases h : u ≤ 9223372036854775808
    · rw [if_pos h, held64_in (by omega) (by omega)]
      congr 2
      unfold wrap64; omega
    · rw [if_neg h, held64_out (by omega)]; first | done | rfl

theorem mul_is (k : Nat) (a b : Int) (ha : -9223372036854775808 ≤ a ∧ a ≤ 9223372036854775807) (hb : -9223372036854775808 ≤ b ∧ b ≤ 9223372036854775807) : num_Mul.f (k + 1) a b = some (held64 (a * b)) := by
  have hP := natAbs_bd a b ha.1 ha.2 hb.1 hb.2
  unfold num_Mul.f
  rw [product_is a b ha.1 ha.2 hb.1 hb.2]
  generalize a * b = x at *
  simp only [Option.bind_some]
  by_cases h : (x.natAbs : Int) / 18446744073709551616 > 0
  · rw [if_pos h, held64_out (by omega)]
  · rw [if_neg h, held_is _ _ _ (by omega) (by omega)]
    simp only [Option.bind_some, decide_eq_true_eq]
    congr 1
    show held64 _ = _
    congr 1
    split <;> omega

/-- The greatest number that divides both; 1 where one is the least of 64 bits. -/
def gcdI (a b : Int) : Int := if a = -9223372036854775808 ∨ b = -9223372036854775808 then 1 else (Nat.gcd a.natAbs b.natAbs : Int)
theorem gcd_loop : ∀ (y x k : Nat), y < k → x < 9223372036854775808 → y < 9223372036854775808 → num_Gcd.l0 k (x : Int) (y : Int) = some (Nat.gcd y x : Int) := by
  intro y
  induction y using Nat.strongRecOn with
  | ind y ih =>
    intro x k hk hx hy
    obtain ⟨k, rfl⟩ : ∃ m, k = m + 1 := ⟨k - 1, by omega⟩
    simp only [num_Gcd.l0]
    by_cases h : y = 0
    · subst h
      rw [if_neg (by omega), w64 (by omega) (by omega), Nat.gcd_zero_left]
    · rw [if_pos (by omega), if_neg (by omega)]
      have hm : x % y < y := Nat.mod_lt _ (by omega)
      rw [show Int.tmod (x : Int) (y : Int) = ((x % y : Nat) : Int) by rw [Int.tmod_eq_emod_of_nonneg (by omega)]; simp]
      rw [ih (x % y) hm y k (by omega) hy (by omega)]
      rw [Nat.gcd_rec y x]
theorem gcd_is (k : Nat) (a b : Int) (ha : -9223372036854775808 ≤ a ∧ a ≤ 9223372036854775807) (hb : -9223372036854775808 ≤ b ∧ b ≤ 9223372036854775807) (hk : 9223372036854775810 ≤ k) : num_Gcd.f k a b = some (gcdI a b) := by
  obtain ⟨k, rfl⟩ : ∃ m, k = m + 1 := ⟨k - 1, by omega⟩
  unfold num_Gcd.f gcdI
  by_cases h : a = -9223372036854775808
  · rw [if_pos h, if_pos (Or.inl h)]; simp only [num_Gcd.j0, if_true]
  · rw [if_neg h]
    simp only [num_Gcd.j0]
    by_cases g : b = -9223372036854775808
    · rw [if_pos (by simp [g]), if_pos (Or.inr g)]
    · rw [if_neg (by simp [g]), if_neg (by omega), side_is a ha.1 ha.2, side_is b hb.1 hb.2]
      simp only [Option.bind_some]
      rw [gcd_loop b.natAbs a.natAbs k (by omega) (by omega) (by omega), Nat.gcd_comm]

/-! The least number that all divide. -/
def lcmFrom : Nat → List Int → Nat
  | n, [] => n
  | n, x :: t => lcmFrom (Nat.lcm n x.natAbs) t
def lcmS (most : Int) (n : Nat) (l : List Int) : Int × Bool := if (∀ x ∈ l, 1 ≤ x) ∧ (lcmFrom n l : Int) ≤ most then ((lcmFrom n l : Int), true) else (0, false)
theorem lcmFrom_dvd : ∀ (l : List Int) (n : Nat), n ∣ lcmFrom n l
  | [], n => Nat.dvd_refl n
  | x :: t, n => Nat.dvd_trans (Nat.dvd_lcm_left n x.natAbs) (lcmFrom_dvd t _)
theorem lcmFrom_mem : ∀ (l : List Int) (n : Nat) (x : Int), x ∈ l → x.natAbs ∣ lcmFrom n l
  | y :: t, n, x, h => by
    rcases List.mem_cons.1 h with rfl | h
    · exact Nat.dvd_trans (Nat.dvd_lcm_right n x.natAbs) (lcmFrom_dvd t _)
    · exact lcmFrom_mem t _ x h
theorem lcmFrom_pos : ∀ (l : List Int) (n : Nat), 0 < n → (∀ x ∈ l, 1 ≤ x) → 0 < lcmFrom n l
  | [], n, h, _ => h
  | x :: t, n, h, hl => lcmFrom_pos t _ (Nat.lcm_pos h (by have := hl x (by simp); omega)) (fun y hy => hl y (by simp [hy]))
theorem lcmFrom_le (l : List Int) (n : Nat) (h : 0 < n) (hl : ∀ x ∈ l, 1 ≤ x) : n ≤ lcmFrom n l := Nat.le_of_dvd (lcmFrom_pos l n h hl) (lcmFrom_dvd l n)
theorem drop_rd (l : List Int) (i : Nat) (h : i < l.length) : l.drop i = rd l (i : Int) :: l.drop (i + 1) := by
  rw [List.drop_eq_getElem_cons h]
  congr 1
  unfold rd
  rw [show ((i : Int)).toNat = i by omega, List.getD_eq_getElem?_getD, List.getElem?_eq_getElem h]; rfl
theorem rd_mem (l : List Int) (i : Nat) (h : i < l.length) : rd l (i : Int) ∈ l := by
  unfold rd
  rw [show ((i : Int)).toNat = i by omega, List.getD_eq_getElem?_getD, List.getElem?_eq_getElem h]
  exact List.getElem_mem h
theorem lcmS_over (most : Int) (n : Nat) (x : Int) (t : List Int) (hn : 0 < n) (h : most < (Nat.lcm n x.natAbs : Int)) : lcmS most n (x :: t) = (0, false) := by
  unfold lcmS
  rw [if_neg]
  rintro ⟨h1, h2⟩
  have := lcmFrom_le t (Nat.lcm n x.natAbs) (Nat.lcm_pos hn (by have := h1 x (by simp); omega)) (fun y hy => h1 y (by simp [hy]))
  simp only [lcmFrom] at h2
  omega
theorem lcmS_low (most : Int) (n : Nat) (x : Int) (t : List Int) (h : x < 1) : lcmS most n (x :: t) = (0, false) := by
  unfold lcmS
  rw [if_neg]
  rintro ⟨h1, h2⟩
  have := h1 x (by simp); omega
theorem lcmS_step (most : Int) (n : Nat) (x : Int) (t : List Int) (h : 1 ≤ x) : lcmS most n (x :: t) = lcmS most (Nat.lcm n x.natAbs) t := by
  unfold lcmS
  simp only [lcmFrom]
  have : (∀ y ∈ x :: t, 1 ≤ y) ↔ ∀ y ∈ t, 1 ≤ y := ⟨fun g y hy => g y (by simp [hy]), fun g y hy => by rcases List.mem_cons.1 hy with rfl | hy; exact h; exact g y hy⟩
  simp only [this]
theorem gcd_div (n : Nat) (x : Int) (hn : 0 < n) (hx : 1 ≤ x) (hx2 : x ≤ 9223372036854775807) (hn2 : n ≤ 9223372036854775807) :
    gcdI (n : Int) x = (Nat.gcd n x.natAbs : Int) ∧ (Nat.gcd n x.natAbs : Int) ≠ 0 ∧ (n : Int) * (Int.tdiv x (Nat.gcd n x.natAbs : Int)) = (Nat.lcm n x.natAbs : Int) ∧ (Int.tdiv (n : Int) (Nat.gcd n x.natAbs : Int)) * x = (Nat.lcm n x.natAbs : Int) ∧
    0 ≤ Int.tdiv x (Nat.gcd n x.natAbs : Int) ∧ Int.tdiv x (Nat.gcd n x.natAbs : Int) ≤ x ∧ 0 ≤ Int.tdiv (n : Int) (Nat.gcd n x.natAbs : Int) ∧ Int.tdiv (n : Int) (Nat.gcd n x.natAbs : Int) ≤ n := by
  obtain ⟨m, rfl⟩ := Int.eq_ofNat_of_zero_le (show 0 ≤ x by omega)
  have hg : 0 < Nat.gcd n m := Nat.gcd_pos_of_pos_left _ hn
  have e1 : Int.tdiv (m : Int) (Nat.gcd n m : Int) = ((m / Nat.gcd n m : Nat) : Int) := by rw [Int.tdiv_eq_ediv_of_nonneg (by omega)]; simp
  have e2 : Int.tdiv (n : Int) (Nat.gcd n m : Int) = ((n / Nat.gcd n m : Nat) : Int) := by rw [Int.tdiv_eq_ediv_of_nonneg (by omega)]; simp
  have d1 : Nat.gcd n m ∣ m := Nat.gcd_dvd_right n m
  have d2 : Nat.gcd n m ∣ n := Nat.gcd_dvd_left n m
  have l1 : m / Nat.gcd n m ≤ m := Nat.div_le_self _ _
  have l2 : n / Nat.gcd n m ≤ n := Nat.div_le_self _ _
  simp only [Int.natAbs_natCast]
  rw [e1, e2]
  refine ⟨?_, by omega, ?_, ?_, Int.natCast_nonneg _, Int.ofNat_le.2 l1, Int.natCast_nonneg _, Int.ofNat_le.2 l2⟩
  · unfold gcdI; rw [if_neg (by omega)]; simp
  · rw [← Int.natCast_mul]; congr 1
    rw [Nat.lcm, Nat.mul_div_assoc n d1]
  · rw [← Int.natCast_mul]; congr 1
    rw [Nat.lcm, Nat.mul_comm n m, Nat.mul_div_assoc m d2, Nat.mul_comm]

theorem lcm_lost (most : Int) (l : List Int) (hlen : l.length < 9223372036854775807) : ∀ (d k : Nat) (i : Nat) (x : Int), i ≤ l.length → l.length - i = d → d < k → num_Lcm.l0 k most x false l (l.length : Int) (i : Int) = some (0, false) := by
  intro d
  induction d with
  | zero =>
    intro k i x hi hd hk
    obtain ⟨k, rfl⟩ : ∃ m, k = m + 1 := ⟨k - 1, by omega⟩
    simp only [num_Lcm.l0]
    rw [if_neg (by omega)]; first | done | rfl
  | succ d ih =>
    intro k i x hi hd hk
    obtain ⟨k, rfl⟩ : ∃ m, k = m + 1 := ⟨k - 1, by omega⟩
    simp only [num_Lcm.l0]
    rw [if_pos (by omega), if_pos (by omega), if_pos (by omega)]
    split
    · rfl
    · rw [w64 (by omega) (by omega)]
      exact ih k (i + 1) x (by omega) (by omega) (by omega)
theorem lcm_loop (most : Int) (l : List Int) (hm : most ≤ 9223372036854775807) (hl : ∀ x ∈ l, x ≤ 9223372036854775807) (hlen : l.length < 9223372036854775807) : ∀ (d k i n : Nat), i ≤ l.length → l.length - i = d → d + 9223372036854775810 < k → 0 < n → (n : Int) ≤ most →
    num_Lcm.l0 k most (n : Int) true l (l.length : Int) (i : Int) = some (lcmS most n (l.drop i)) := by
  intro d
  induction d with
  | zero =>
    intro k i n hi hd hk hn hnm
    obtain ⟨k, rfl⟩ : ∃ m, k = m + 1 := ⟨k - 1, by omega⟩
    simp only [num_Lcm.l0]
    rw [if_neg (by omega), List.drop_of_length_le (by omega)]
    unfold lcmS
    simp only [if_true]
    rw [if_pos ⟨by simp, hnm⟩]
    rfl
  | succ d ih =>
    intro k i n hi hd hk hn hnm
    obtain ⟨k, rfl⟩ : ∃ m, k = m + 1 := ⟨k - 1, by omega⟩
    have hx2 := hl _ (rd_mem l i (by omega))
    rw [drop_rd l i (by omega)]
    simp only [num_Lcm.l0]
    rw [if_pos (by omega), if_pos (by omega), if_pos (by omega)]
    generalize rd l (i : Int) = x at *
    by_cases h1 : x < 1
    · rw [if_pos h1, lcmS_low _ _ _ _ h1]
    · rw [if_neg h1]
      have ⟨g1, g2, g3, g4, g5, g6, g7, g8⟩ := gcd_div n x hn (by omega) hx2 (by omega)
      simp only [if_true]
      rw [gcd_is k _ _ (by omega) (by omega) (by omega), g1]
      simp only [Option.bind_some]
      rw [if_neg g2]
      obtain ⟨k, rfl⟩ : ∃ m, k = m + 1 := ⟨k - 1, by omega⟩
      rw [w64 (x := Int.tdiv x _) (by omega) (by omega), mul_is k _ _ (by omega) (by omega), g3]
      have hpos : 0 < Nat.lcm n x.natAbs := Nat.lcm_pos hn (by omega)
      simp only [Option.bind_some]
      rw [w64 (x := (i : Int) + 1) (by omega) (by omega)]
      by_cases hb : (Nat.lcm n x.natAbs : Int) ≤ 9223372036854775807
      · rw [held64_in (by omega) hb]
        simp only [if_true]
        by_cases hb2 : (Nat.lcm n x.natAbs : Int) ≤ most
        · rw [decide_eq_true hb2, lcmS_step _ _ _ _ (by omega)]
          exact ih (k + 1) (i + 1) _ (by omega) (by omega) (by omega) hpos hb2
        · rw [decide_eq_false hb2, lcmS_over _ _ _ _ hn (by omega)]
          exact lcm_lost most l hlen d (k + 1) (i + 1) _ (by omega) (by omega) (by omega)
      · rw [held64_out (by omega), lcmS_over _ _ _ _ hn (by omega)]
        exact lcm_lost most l hlen d (k + 1) (i + 1) _ (by omega) (by omega) (by omega)
theorem lcmS_none (most : Int) (l : List Int) (h : most < 1) : lcmS most 1 l = (0, false) := by
  unfold lcmS
  rw [if_neg]
  rintro ⟨h1, h2⟩
  have := lcmFrom_pos l 1 (by omega) h1
  omega
theorem lcm_is (k : Nat) (most : Int) (l : List Int) (hm : most ≤ 9223372036854775807) (hl : ∀ x ∈ l, x ≤ 9223372036854775807) (hlen : l.length < 9223372036854775807) (hk : l.length + 9223372036854775810 < k) :
    num_Lcm.f k most l = some (lcmS most 1 l) := by
  unfold num_Lcm.f
  by_cases h : most ≥ 1
  · rw [decide_eq_true h]
    have := lcm_loop most l hm hl hlen l.length k 0 1 (by omega) (by omega) (by omega) (by omega) (by omega)
    exact this
  · rw [decide_eq_false h, lcmS_none most l (by omega)]
    exact lcm_lost most l hlen l.length k 0 1 (by omega) (by omega) (by omega)

/-! Demand, in plain numbers. A task: its period, its need, its skip. -/
abbrev T3 := Int × Int × Int
def ofS (t : T3) (long : Int) : Int :=
  if goodTB t.1 t.2.1 t.2.2 = true ∧ 0 ≤ long then
    (if 0 < t.2.2 then min long 1000000 / t.1 - min long 1000000 / t.1 / t.2.2 else min long 1000000 / t.1) * t.2.1
  else 0
def sumS (l : List T3) (long : Int) : Int := l.foldr (fun t n => ofS t long + n) 0
def allS (l : List T3) (long : Int) : Int := if 20 < l.length then 0 else sumS l long
def longS (t : T3) : Int := t.1 * max t.2.2 1
def frameS (l : List T3) : Int × Int :=
  if 20 < l.length ∨ (l.any fun t => !goodTB t.1 t.2.1 t.2.2) = true then (0, 1)
  else if (lcmS 100000 1 (l.map longS)).2 = true then ((lcmS 100000 1 (l.map longS)).1, 0) else (0, 2)
def holdsS (l : List T3) : Bool × Int :=
  if (frameS l).2 = 0 then ((List.range (frameS l).1.toNat).all fun i => decide (allS l ((i : Int) + 1) ≤ (i : Int) + 1), 0) else (false, (frameS l).2)
theorem goodTB_iff {p n s : Int} (h : goodTB p n s = true) : 1 ≤ p ∧ p ≤ 10000 ∧ 1 ≤ n ∧ n ≤ 1000 ∧ (s = 0 ∨ 2 ≤ s ∧ s ≤ 1000) := of_decide_eq_true h
theorem of_bd (t : T3) (long : Int) : 0 ≤ ofS t long ∧ ofS t long ≤ 1000000000 := by
  unfold ofS
  split
  · rename_i h
    obtain ⟨h, h0⟩ := h
    have ⟨h1, h2, h3, h4, h5⟩ := goodTB_iff h
    have hm0 : 0 ≤ min long 1000000 / t.1 := Int.ediv_nonneg (by omega) (by omega)
    have hm1 : min long 1000000 / t.1 ≤ 1000000 := Int.le_trans (Int.ediv_le_self _ (by omega)) (by omega)
    generalize min long 1000000 / t.1 = m at *
    have hd : 0 < t.2.2 → 0 ≤ m / t.2.2 ∧ m / t.2.2 ≤ m := fun g => ⟨Int.ediv_nonneg hm0 (by omega), Int.ediv_le_self _ hm0⟩
    have := mul_bd0 (x := if 0 < t.2.2 then m - m / t.2.2 else m) (y := t.2.1) 1000000 1000 (by split <;> omega) (by split <;> omega) (by omega) (by omega)
    omega
  · omega
theorem sumS_cons (t : T3) (l : List T3) (long : Int) : sumS (t :: l) long = ofS t long + sumS l long := rfl
theorem sum_bd (l : List T3) (long : Int) : 0 ≤ sumS l long ∧ sumS l long ≤ l.length * 1000000000 := by
  induction l with
  | nil => simp [sumS]
  | cons t l ih =>
    have := of_bd t long
    have e : sumS (t :: l) long = ofS t long + sumS l long := rfl
    rw [e, List.length_cons]
    omega
theorem mx_max (a b : Int) : mx a b = max a b := by unfold mx; omega
theorem mn_min (a b : Int) : mn a b = min a b := by unfold mn; omega
theorem long_bd {t : T3} (h : goodTB t.1 t.2.1 t.2.2 = true) : 1 ≤ longS t ∧ longS t ≤ 10000000 := by
  have ⟨h1, h2, h3, h4, h5⟩ := goodTB_iff h
  have := mul_bd0 (x := t.1) (y := max t.2.2 1) 10000 1000 (by omega) (by omega) (by omega) (by omega)
  have : 0 < t.1 * max t.2.2 1 := Int.mul_pos (by omega) (by omega)
  unfold longS; omega
theorem frame_bd (l : List T3) : 0 ≤ (frameS l).1 ∧ (frameS l).1 ≤ 100000 ∧ ((frameS l).2 = 0 → 1 ≤ (frameS l).1) := by
  unfold frameS
  split
  · simp
  · rename_i h
    unfold lcmS
    by_cases g : (∀ x ∈ l.map longS, 1 ≤ x) ∧ (lcmFrom 1 (l.map longS) : Int) ≤ 100000
    · rw [if_pos g]
      have := lcmFrom_pos (l.map longS) 1 (by omega) g.1
      simp only [if_true]
      omega
    · rw [if_neg g]; simp

theorem goodT_is' (p n s : Int) : demand_Good.f p n s = some (goodTB p n s) := by
  unfold demand_Good.f goodTB
  repeat' split
  all_goals (congr 1; first | rfl | (rw [decide_eq_decide]; omega) | (symm; rw [decide_eq_true_iff]; omega) | (symm; rw [decide_eq_false_iff_not]; omega))
def qT (x : S35) : T3 := (x.f0, x.f1, x.f2)
theorem of_is (k : Nat) (p n s long : Int) (hl : -9223372036854775808 ≤ long ∧ long ≤ 9223372036854775807) (hk : 1 ≤ k) : demand_Of.f k p n s long = some (ofS (p, n, s) long) := by
  obtain ⟨k, rfl⟩ : ∃ m, k = m + 1 := ⟨k - 1, by omega⟩
  have hb := of_bd (p, n, s) long
  unfold demand_Of.f
  rw [show demand_Good.f p n s = some (goodTB p n s) from goodT_is' p n s]
  unfold ofS at *
  simp only [Option.bind_some, demand_Of.j0]
  cases hg : goodTB p n s
  · simp
  · have ⟨h1, h2, h3, h4, h5⟩ := goodTB_iff hg
    simp only [if_true, true_and, decide_eq_true_eq, hg] at *
    by_cases h0 : long < 0
    · rw [if_pos h0, if_neg (by omega)]
    · rw [if_neg h0, if_neg (show ¬ p = 0 by omega), if_pos (show 0 ≤ long by omega), mn_min]
      rw [if_pos (show 0 ≤ long by omega)] at hb
      have hm0 : 0 ≤ min long 1000000 / p := Int.ediv_nonneg (by omega) (by omega)
      have hm1 : min long 1000000 / p ≤ 1000000 := Int.le_trans (Int.ediv_le_self _ (by omega)) (by omega)
      rw [Int.tdiv_eq_ediv_of_nonneg (by omega)]
      generalize min long 1000000 / p = m at *
      rw [w64 (x := m) (by omega) (by omega)]
      by_cases hs : s > 0
      · have hd0 : 0 ≤ m / s := Int.ediv_nonneg hm0 (by omega)
        have hd1 : m / s ≤ m := Int.ediv_le_self _ hm0
        rw [if_pos hs] at hb
        rw [if_pos hs, if_neg (by omega), if_pos hs, Int.tdiv_eq_ediv_of_nonneg hm0, w64 (x := m / s) (by omega) (by omega), w64 (x := m - m / s) (by omega) (by omega), w64 (x := (m - m / s) * n) (by omega) (by omega)]
      · rw [if_neg hs] at hb
        rw [if_neg hs, if_neg hs, w64 (x := m * n) (by omega) (by omega)]
theorem drop_rdT (l : List S35) (i : Nat) (h : i < l.length) : l.drop i = rd_T35 l (i : Int) :: l.drop (i + 1) := by
  rw [List.drop_eq_getElem_cons h]
  congr 1
  unfold rd_T35
  rw [show ((i : Int)).toNat = i by omega, List.getD_eq_getElem?_getD, List.getElem?_eq_getElem h]; rfl
theorem all_loop (l : List S35) (long : Int) (hl : -9223372036854775808 ≤ long ∧ long ≤ 9223372036854775807) (hlen : l.length ≤ 20) : ∀ (d k i : Nat) (acc : Int), i ≤ l.length → l.length - i = d → d + 1 < k → 0 ≤ acc → acc ≤ i * 1000000000 →
    demand_All.l0 k long acc l (l.length : Int) (i : Int) = some (acc + sumS ((l.drop i).map qT) long) := by
  intro d
  induction d with
  | zero =>
    intro k i acc hi hd hk h0 h1
    obtain ⟨k, rfl⟩ : ∃ m, k = m + 1 := ⟨k - 1, by omega⟩
    simp only [demand_All.l0]
    rw [if_neg (by omega), List.drop_of_length_le (by omega)]
    simp [sumS]
  | succ d ih =>
    intro k i acc hi hd hk h0 h1
    obtain ⟨k, rfl⟩ : ∃ m, k = m + 1 := ⟨k - 1, by omega⟩
    simp only [demand_All.l0]
    rw [if_pos (by omega), if_pos (by omega), if_pos (by omega), of_is k _ _ _ _ hl (by omega), drop_rdT l i (by omega)]
    generalize rd_T35 l (i : Int) = t
    have hb := of_bd (t.f0, t.f1, t.f2) long
    rw [List.map_cons, sumS_cons, show qT t = (t.f0, t.f1, t.f2) from rfl]
    generalize ofS (t.f0, t.f1, t.f2) long = v at *
    simp only [Option.bind_some]
    rw [w64 (x := acc + v) (by omega) (by omega), w64 (x := (i : Int) + 1) (by omega) (by omega)]
    have := ih k (i + 1) (acc + v) (by omega) (by omega) (by omega) (by omega) (by omega)
    rw [show ((i : Int) + 1) = ((i + 1 : Nat) : Int) by omega, this, Int.add_assoc]
theorem all_is (k : Nat) (l : List S35) (long : Int) (hl : -9223372036854775808 ≤ long ∧ long ≤ 9223372036854775807) (hk : 23 ≤ k) : demand_All.f k l long = some (allS (l.map qT) long) := by
  unfold demand_All.f allS
  rw [List.length_map]
  by_cases h : (l.length : Int) > 20
  · rw [if_pos h, if_pos (by omega)]
  · rw [if_neg h, if_neg (by omega)]
    have := all_loop l long hl (by omega) l.length k 0 0 (by omega) (by omega) (by omega) (by omega) (by omega)
    rw [List.drop_zero, Int.zero_add] at this
    exact this
theorem frame_loop (l : List S35) (hg : ∀ t ∈ l, goodTB t.f0 t.f1 t.f2 = true) (hlen : l.length ≤ 20) : ∀ (d k i : Nat) (acc : List Int), i ≤ l.length → l.length - i = d → d + 9223372036854775840 < k → acc = ((l.take i).map qT).map longS →
    demand_Frame.l0 k acc l (l.length : Int) (i : Int) = some (if (lcmS 100000 1 ((l.map qT).map longS)).2 = true then ((lcmS 100000 1 ((l.map qT).map longS)).1, 0) else (0, 2)) := by
  intro d
  induction d with
  | zero =>
    intro k i acc hi hd hk ha
    obtain ⟨k, rfl⟩ : ∃ m, k = m + 1 := ⟨k - 1, by omega⟩
    simp only [demand_Frame.l0]
    rw [List.take_of_length_le (by omega)] at ha
    subst ha
    have hb : ∀ x ∈ (l.map qT).map longS, x ≤ 9223372036854775807 := by
      intro x hx
      obtain ⟨y, hy, rfl⟩ := List.mem_map.1 hx
      obtain ⟨t, ht, rfl⟩ := List.mem_map.1 hy
      have := long_bd (t := qT t) (hg t ht)
      omega
    rw [if_neg (by omega), lcm_is k 100000 _ (by omega) hb (by simp; omega) (by simp; omega)]
    simp only [Option.bind_some]
    split <;> rfl
  | succ d ih =>
    intro k i acc hi hd hk ha
    obtain ⟨k, rfl⟩ : ∃ m, k = m + 1 := ⟨k - 1, by omega⟩
    simp only [demand_Frame.l0]
    have hlen2 : acc.length ≤ 20 := by subst ha; simp; omega
    rw [if_pos (by omega), if_pos (by omega), if_pos (by omega), if_pos (by omega)]
    have hm : rd_T35 l (i : Int) ∈ l := by
      have := drop_rdT l i (by omega)
      exact List.mem_of_mem_drop (i := i) (by rw [this]; simp)
    have hb := long_bd (t := qT (rd_T35 l (i : Int))) (hg _ hm)
    have he : ((l.take (i + 1)).map qT).map longS = acc ++ [longS (qT (rd_T35 l (i : Int)))] := by
      rw [List.take_succ_eq_append_getElem (by omega), List.map_append, List.map_append, ← ha]
      have := drop_rdT l i (by omega)
      rw [List.drop_eq_getElem_cons (by omega)] at this
      injection this with e1 e2
      rw [← e1]; rfl
    have hw : wrap64 ((rd_T35 l (i : Int)).f0 * mx (rd_T35 l (i : Int)).f2 1) = longS (qT (rd_T35 l (i : Int))) := by
      rw [mx_max]
      exact w64 (by unfold longS qT at hb; simp only at hb; omega) (by unfold longS qT at hb; simp only at hb; omega)
    rw [hw, w64 (x := (i : Int) + 1) (by omega) (by omega)]
    exact ih k (i + 1) _ (by omega) (by omega) (by omega) he.symm
theorem frame_is (k : Nat) (l : List S35) (hk : 9223372036854775900 ≤ k) : demand_Frame.f k l = some (frameS (l.map qT)) := by
  obtain ⟨k, rfl⟩ : ∃ m, k = m + 1 := ⟨k - 1, by omega⟩
  have ha : ((l.map qT).any fun t => !goodTB t.1 t.2.1 t.2.2) = l.any fun t => !goodTB t.f0 t.f1 t.f2 := by rw [List.any_map]; rfl
  unfold demand_Frame.f frameS
  rw [List.length_map, ha]
  by_cases h : (l.length : Int) > 20
  · rw [if_pos h, if_pos (Or.inl (by omega))]; simp only [demand_Frame.j0, if_true]
  · rw [if_neg h]
    unfold cfTask.f
    simp only [Option.bind_some, demand_Frame.j0]
    by_cases g : (l.any fun t => !goodTB t.f0 t.f1 t.f2) = true
    · rw [if_pos g, if_pos (Or.inr g)]
    · rw [if_neg g, if_neg (by rintro (x | x); omega; exact g x)]
      have hg : ∀ t ∈ l, goodTB t.f0 t.f1 t.f2 = true := fun t ht => by
        cases e : goodTB t.f0 t.f1 t.f2
        · exact absurd (List.any_eq_true.2 ⟨t, ht, by rw [e]; rfl⟩) g
        · rfl
      exact frame_loop l hg (by omega) l.length k 0 [] (by omega) (by omega) (by omega) rfl
theorem holds_loop (l : List S35) (n : Int) (hn : n ≤ 100000) : ∀ (d k : Nat) (i : Int), 1 ≤ i → n + 1 - i = d → d + 30 < k →
    demand_Holds.l0 k l n i = some ((List.range d).all fun j => decide (allS (l.map qT) (i + j) ≤ i + j), 0) := by
  intro d
  induction d with
  | zero =>
    intro k i h1 hd hk
    obtain ⟨k, rfl⟩ : ∃ m, k = m + 1 := ⟨k - 1, by omega⟩
    simp only [demand_Holds.l0]
    rw [if_neg (by omega)]; rfl
  | succ d ih =>
    intro k i h1 hd hk
    obtain ⟨k, rfl⟩ : ∃ m, k = m + 1 := ⟨k - 1, by omega⟩
    simp only [demand_Holds.l0]
    rw [if_pos (by omega), all_is k l i (by omega) (by omega)]
    simp only [Option.bind_some]
    rw [List.range_succ_eq_map, List.all_cons]
    by_cases h : allS (l.map qT) i > i
    · rw [if_pos h]
      simp only [Int.natCast_zero, Int.add_zero]
      rw [decide_eq_false (by omega)]; rfl
    · rw [if_neg h, w64 (x := i + 1) (by omega) (by omega), ih k (i + 1) (by omega) (by omega) (by omega)]
      simp only [Int.natCast_zero, Int.add_zero]
      rw [decide_eq_true (show allS (l.map qT) i ≤ i by omega), Bool.true_and, List.all_map]
      congr 2
      apply List.all_congr rfl
      intro j
      simp only [Function.comp]
      rw [show i + 1 + (j : Int) = i + ((j + 1 : Nat) : Int) by omega]
theorem holds_is (k : Nat) (l : List S35) (hk : 9223372036854775900 ≤ k) : demand_Holds.f k l = some (holdsS (l.map qT)) := by
  have hb := frame_bd (l.map qT)
  unfold demand_Holds.f holdsS
  rw [frame_is k l hk]
  simp only [Option.bind_some]
  by_cases h : (frameS (l.map qT)).2 = 0
  · rw [if_pos h, if_pos h, holds_loop l _ (by omega) (frameS (l.map qT)).1.toNat k 1 (by omega) (by omega) (by omega)]
    congr 2
    apply List.all_congr rfl
    intro j
    rw [Int.add_comm 1 (j : Int)]
  · rw [if_neg h, if_neg h]


end Go.Proofs.Ytkjboaepeecinaa.Pure
