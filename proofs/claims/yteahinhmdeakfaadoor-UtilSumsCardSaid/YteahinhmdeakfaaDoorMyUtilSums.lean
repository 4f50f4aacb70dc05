/- Shares of tasks that take turns all of the time are at most as many more than One as there are tasks: for every list of needs (of more than ten nothing is asked) and every period. -/
import Derived.Test.YteahinhmdeakfaaDoorPUtx2
import Derived.Test.YteahinhmdeakfaaDoorCards
import Derived.Test.YteahinhmdeakfaaDoorTie
import Derived.LaidMore
import Derived.Stop.Joined
import Derived.SevenTiedAt
import Derived.Lib.LaidTab
import Derived.Test.YteahinhmdeakfaaDoorRows
import Derived.WalkKit
import Derived.ProofKit
import Derived.OpenShut
import Derived.ShutString
import Derived.ChangeOld
import Derived.Below
import Derived.SizedLaws
import Derived.Carry
import Derived.Lib.SmallJoins
import Derived.Test.YteahinhmdeakfaaDoorWSized
namespace Go.Proofs.YteahinhmdeakfaaDoor.Pure
open Go.RowKit Go.Proofs.YteahinhmdeakfaaDoor.PUt Go.Proofs.YteahinhmdeakfaaDoorW.PrintWords Go.Proofs.YteahinhmdeakfaaDoorW.PrintLast Go.Proofs.YteahinhmdeakfaaDoorW.PrintMore 
set_option linter.unusedVariables false
set_option linter.unusedSimpArgs false

theorem work_is (n : Int) : util_work.f n = some (decide (1 ≤ n ∧ n ≤ 1000)) := by
  unfold util_work.f
  repeat' split
  all_goals (congr 1; first | rfl | (rw [decide_eq_decide]; omega) | (symm; rw [decide_eq_true_iff]; omega) | (symm; rw [decide_eq_false_iff_not]; omega))
def upd (x s : Int) : Int := -(-x / s)
theorem upd_bd {s : Int} (x : Int) (hs : 0 < s) : x ≤ upd x s * s ∧ upd x s * s < x + s := by
  unfold upd
  have h1 := Int.ediv_mul_le (-x) (show s ≠ 0 by omega)
  have h2 := Int.lt_ediv_add_one_mul_self (-x) hs
  rw [Int.add_mul, Int.one_mul] at h2
  rw [Int.neg_mul]
  omega
/-- The share of a need: rounded up. -/
def shareOf (n p : Int) : Int × Bool := if (1 ≤ n ∧ n ≤ 1000) ∧ 1 ≤ p ∧ p ≤ 10000 then (upd (n * 1048576) p, true) else (0, false)
theorem up_pos {x c : Int} (h0 : 1 ≤ x) (hc : 0 < c) : 1 ≤ upd x c ∧ upd x c ≤ x := by
  have ⟨b1, b2⟩ := upd_bd x hc
  constructor
  · have : 0 * c < upd x c * c := by omega
    have := Int.lt_of_mul_lt_mul_right this (by omega)
    omega
  · have h : (upd x c - 1) * c < x := by rw [Int.sub_mul, Int.one_mul]; omega
    by_cases g : upd x c ≤ 1
    · omega
    · have : (upd x c - 1) * 1 ≤ (upd x c - 1) * c := Int.mul_le_mul_of_nonneg_left (by omega) (by omega)
      omega
theorem up_is {n c : Int} (h0 : 1 ≤ n) (h1 : n ≤ 1000) (hc : 0 < c) (hc2 : c ≤ 9223372036854775807) : num_Up.f n 1048576 c = some (upd (n * 1048576) c, true) := by
  unfold num_Up.f
  rw [if_pos (by omega)]
  unfold upI
  rw [if_neg (by omega)]
  show some (held64 (upd (n * 1048576) c)) = _
  have := up_pos (x := n * 1048576) (c := c) (by omega) hc
  unfold held64
  rw [if_pos (by unfold fits; omega)]
theorem of_is (n p : Int) (hp : -9223372036854775808 ≤ p ∧ p ≤ 9223372036854775807) : util_Of.f n p = some (shareOf n p) := by
  unfold util_Of.f shareOf
  rw [work_is]
  simp only [Option.bind_some]
  by_cases h : 1 ≤ n ∧ n ≤ 1000
  · rw [decide_eq_true h]
    simp only [if_true]
    by_cases h1 : p < 1
    · rw [if_pos h1, if_neg (by omega)]
    · rw [if_neg h1]
      by_cases h2 : p > 10000
      · rw [if_pos h2, if_neg (by omega)]
      · rw [if_neg h2, if_pos (by omega), up_is h.1 h.2 (by omega) (by omega)]; rfl
  · rw [decide_eq_false h]
    simp only [Bool.false_eq_true, if_false]
    rw [if_neg (by omega)]
/-- The period of a share. -/
def periodOf (n s : Int) : Int × Bool := if ((1 ≤ n ∧ n ≤ 1000) ∧ 1 ≤ s) ∧ upd (n * 1048576) s ≤ 10000 then (upd (n * 1048576) s, true) else (0, false)
theorem period_is (k : Nat) (n s : Int) (hs : -9223372036854775808 ≤ s ∧ s ≤ 9223372036854775807) (hk : 1 ≤ k) : util_Period.f k n s = some (periodOf n s) := by
  obtain ⟨k, rfl⟩ : ∃ m, k = m + 1 := ⟨k - 1, by omega⟩
  unfold util_Period.f periodOf
  rw [work_is]
  simp only [Option.bind_some, util_Period.j0]
  by_cases h : 1 ≤ n ∧ n ≤ 1000
  · rw [decide_eq_true h]
    simp only [if_true]
    by_cases h1 : s < 1
    · rw [decide_eq_true h1]
      simp only [if_true]
      rw [if_neg (by omega)]
    · rw [decide_eq_false h1, up_is h.1 h.2 (by omega) (by omega)]
      simp only [Bool.false_eq_true, if_false, Option.bind_some, if_true]
      by_cases h2 : upd (n * 1048576) s > 10000
      · rw [if_pos h2, if_neg (by omega)]
      · rw [if_neg h2, if_pos (by omega)]
  · rw [decide_eq_false h]
    simp only [Bool.false_eq_true, if_false, if_true]
    rw [if_neg (by omega)]
theorem LeO_up {α : Type} {f : Nat → Option α} (h : ∀ k, LeO (f k) (f (k + 1))) {r : α} {k : Nat} (e : f k = some r) : ∀ m, f (k + m) = some r
  | 0 => e
  | m + 1 => h _ r (LeO_up h e m)
theorem awake_is (k : Nat) (hk : 20 ≤ k) : tocsinlaw12_awake.f k = some true := by
  have := LeO_up (f := tocsinlaw12_awake.f) (fun k => tocsinlaw12_awake.mono k) (k := 20) (r := true) (by decide +kernel) (k - 20)
  rw [show 20 + (k - 20) = k by omega] at this
  exact this
/-- Up, and up again: not above. -/
theorem up_le {a b c : Int} (hc : 0 < c) (h : a ≤ b * c) : upd a c ≤ b := by
  have ⟨b1, b2⟩ := upd_bd a hc
  have : upd a c * c < (b + 1) * c := by rw [Int.add_mul, Int.one_mul]; omega
  have := Int.lt_of_mul_lt_mul_right this (by omega)
  omega
theorem up_gt {a b c : Int} (hc : 0 < c) (h : b * c < a) : b < upd a c := by
  have ⟨b1, b2⟩ := upd_bd a hc
  exact Int.lt_of_mul_lt_mul_right (show b * c < upd a c * c by omega) (by omega)

theorem add_is (a b : Int) (ha : -9223372036854775808 ≤ a ∧ a ≤ 9223372036854775807) (hb : -9223372036854775808 ≤ b ∧ b ≤ 9223372036854775807) : num_Add.f a b = some (held64 (a + b)) := by
  obtain ⟨ha0, ha1⟩ := ha; obtain ⟨hb0, hb1⟩ := hb
  unfold num_Add.f
  by_cases h : -9223372036854775808 ≤ a + b ∧ a + b ≤ 9223372036854775807
  · rw [held64_in h.1 h.2, w64 h.1 h.2]
    repeat' split
    all_goals first | rfl | omega
  · rw [held64_out (by omega)]
    unfold wrap64
    repeat' split
    all_goals first | rfl | omega

/-! Springs in plain numbers: sums over the first n places. -/
def sumN (f : Nat → Int) : Nat → Int
  | 0 => 0
  | n + 1 => sumN f n + f n
theorem sumN_congr {f g : Nat → Int} : ∀ n, (∀ i, i < n → f i = g i) → sumN f n = sumN g n
  | 0, _ => rfl
  | n + 1, h => by simp only [sumN]; rw [sumN_congr n fun i hi => h i (by omega), h n (by omega)]
theorem sumN_le {f g : Nat → Int} : ∀ n, (∀ i, i < n → f i ≤ g i) → sumN f n ≤ sumN g n
  | 0, _ => Int.le_refl _
  | n + 1, h => by have := sumN_le n fun i hi => h i (Nat.lt_succ_of_lt hi); have := h n (Nat.lt_succ_self n); simp only [sumN]; omega
theorem sumN_lt {f g : Nat → Int} : ∀ n, (∀ i, i < n → f i ≤ g i) → (∃ i, i < n ∧ f i < g i) → sumN f n < sumN g n
  | 0, _, ⟨i, hi, _⟩ => absurd hi (by omega)
  | n + 1, h, ⟨i, hi, hl⟩ => by
    have h1 := sumN_le n fun i hi => h i (Nat.lt_succ_of_lt hi)
    have h2 := h n (Nat.lt_succ_self n)
    simp only [sumN]
    by_cases e : i = n
    · subst e; omega
    · have := sumN_lt n (fun i hi => h i (Nat.lt_succ_of_lt hi)) ⟨i, by omega, hl⟩; omega
theorem sumN_add (f g : Nat → Int) : ∀ n, sumN (fun i => f i + g i) n = sumN f n + sumN g n
  | 0 => rfl
  | n + 1 => by simp only [sumN]; rw [sumN_add f g n]; omega
theorem sumN_mul (c : Int) (f : Nat → Int) : ∀ n, sumN (fun i => c * f i) n = c * sumN f n
  | 0 => by simp [sumN]
  | n + 1 => by simp only [sumN]; rw [sumN_mul c f n, Int.mul_add]
theorem sumN_const (c : Int) : ∀ n : Nat, sumN (fun _ => c) n = n * c
  | 0 => by simp [sumN]
  | n + 1 => by simp only [sumN]; rw [sumN_const c n]; grind
theorem sumN_nonneg {f : Nat → Int} (n : Nat) (h : ∀ i, i < n → 0 ≤ f i) : 0 ≤ sumN f n := by
  have := sumN_le (f := fun _ => 0) (g := f) n h
  rw [sumN_const] at this; omega
theorem sumN_zero {f : Nat → Int} : ∀ n, (∀ i, i < n → 0 ≤ f i) → sumN f n = 0 → ∀ i, i < n → f i = 0
  | 0, _, _, i, hi => absurd hi (by omega)
  | n + 1, h, e, i, hi => by
    have h1 := sumN_nonneg n fun i hi => h i (Nat.lt_succ_of_lt hi)
    have h2 := h n (Nat.lt_succ_self n)
    simp only [sumN] at e
    by_cases e' : i = n
    · subst e'; omega
    · exact sumN_zero n (fun i hi => h i (Nat.lt_succ_of_lt hi)) (by omega) i (by omega)

theorem map_range_congr {α : Type} {f g : Nat → α} (n : Nat) (h : ∀ i, i < n → f i = g i) : (List.range n).map f = (List.range n).map g :=
  List.map_congr_left fun i hi => h i (List.mem_range.1 hi)
theorem rd_map (f : Nat → Int) (n i : Nat) (hi : i < n) : rd ((List.range n).map f) (i : Int) = f i := by
  unfold rd
  rw [show ((i : Int)).toNat = i by omega, List.getD_eq_getElem?_getD, List.getElem?_map, List.getElem?_range hi]; rfl


theorem sum_loop (g : Nat → Int) (n : Nat) (hn : n ≤ 10) (hg : ∀ i, i < n → 0 ≤ g i ∧ g i ≤ 1048576000) : ∀ (d k i : Nat), i ≤ n → n - i = d → d + 1 < k →
    util_Sum.l0 k (sumN g i) true ((List.range n).map g) (n : Int) (i : Int) = some (sumN g n, true) := by
  intro d
  induction d with
  | zero =>
    intro k i hi hd hk
    obtain ⟨k, rfl⟩ : ∃ m, k = m + 1 := ⟨k - 1, by omega⟩
    simp only [util_Sum.l0]
    rw [if_neg (by omega), show i = n by omega]
  | succ d ih =>
    intro k i hi hd hk
    obtain ⟨k, rfl⟩ : ∃ m, k = m + 1 := ⟨k - 1, by omega⟩
    have hn2 := ih k (i + 1) (by omega) (by omega) (by omega)
    simp only [util_Sum.l0]
    have hgi := hg i (by omega)
    have hb : sumN g i ≤ sumN (fun _ => 1048576000) i := sumN_le i fun j hj => (hg j (by omega)).2
    rw [sumN_const] at hb
    have hb0 := sumN_nonneg i fun j hj => (hg j (by omega)).1
    rw [if_pos (by omega), if_pos (by omega), if_pos (by simp; omega), rd_map g n i (by omega), if_neg (by omega)]
    simp only [if_true]
    rw [add_is _ _ (by omega) (by omega), held64_in (by omega) (by omega)]
    simp only [Option.bind_some]
    rw [w64 (x := (i : Int) + 1) (by omega) (by omega), show ((i : Int) + 1) = ((i + 1 : Nat) : Int) by omega]
    exact hn2
theorem sum_is (k : Nat) (g : Nat → Int) (n : Nat) (hn : n ≤ 10) (hg : ∀ i, i < n → 0 ≤ g i ∧ g i ≤ 1048576000) (hk : 30 ≤ k) : util_Sum.f k ((List.range n).map g) = some (sumN g n, true) := by
  unfold util_Sum.f
  rw [show ((((List.range n).map g).length : Nat) : Int) = (n : Int) by simp]
  exact sum_loop g n hn hg n k 0 (by omega) (by omega) (by omega)
def gS (l : List Int) (p : Int) (i : Nat) : Int := upd (rd l (i : Int) * 1048576) p
def gA (l : List Int) (i : Nat) : Int := rd l (i : Int)
theorem map_snoc (g : Nat → Int) (i : Nat) : (List.range i).map g ++ [g i] = (List.range (i + 1)).map g := by rw [List.range_succ, List.map_append]; rfl
theorem end_ (l : List Int) (p : Int) (hl : l.length ≤ 10) (hp0 : 1 ≤ p) (hp1 : p ≤ 10000) (hg : ∀ i, i < l.length → 1 ≤ gA l i ∧ gA l i ≤ 1000) :
    (sumN (gS l p) l.length * p ≥ sumN (gA l) l.length * 1048576) ∧ sumN (gS l p) l.length * p < sumN (gA l) l.length * 1048576 + (l.length + 1) * p ∧ 0 ≤ sumN (gS l p) l.length ∧ sumN (gS l p) l.length ≤ 10485760000 ∧ 0 ≤ sumN (gA l) l.length ∧ sumN (gA l) l.length ≤ 10000 := by
  have e1 : p * sumN (gS l p) l.length = sumN (fun i => p * gS l p i) l.length := (sumN_mul _ _ _).symm
  have e2 : 1048576 * sumN (gA l) l.length = sumN (fun i => 1048576 * gA l i) l.length := (sumN_mul _ _ _).symm
  have h1 : sumN (fun i => 1048576 * gA l i) l.length ≤ sumN (fun i => p * gS l p i) l.length := sumN_le _ fun i hi => by
    have := (upd_bd (gA l i * 1048576) (show 0 < p by omega)).1
    show 1048576 * gA l i ≤ p * upd (gA l i * 1048576) p
    rw [Int.mul_comm p]; omega
  have h2 : sumN (fun i => p * gS l p i) l.length ≤ sumN (fun i => 1048576 * gA l i + p) l.length := sumN_le _ fun i hi => by
    have := (upd_bd (gA l i * 1048576) (show 0 < p by omega)).2
    show p * upd (gA l i * 1048576) p ≤ 1048576 * gA l i + p
    rw [Int.mul_comm p]; omega
  rw [sumN_add (fun i => 1048576 * gA l i) (fun _ => p), sumN_const] at h2
  have h3 : sumN (gS l p) l.length ≤ sumN (fun _ => 1048576000) l.length := sumN_le _ fun i hi => by
    have := hg i hi
    have := up_pos (x := gA l i * 1048576) (c := p) (by omega) (by omega)
    show upd (gA l i * 1048576) p ≤ 1048576000
    omega
  have h4 := sumN_nonneg (f := gS l p) l.length fun i hi => by
    have := hg i hi
    have := up_pos (x := gA l i * 1048576) (c := p) (by omega) (by omega)
    show 0 ≤ upd (gA l i * 1048576) p
    omega
  have h5 : sumN (gA l) l.length ≤ sumN (fun _ => 1000) l.length := sumN_le _ fun i hi => (hg i hi).2
  have h6 := sumN_nonneg (f := gA l) l.length fun i hi => by have := hg i hi; omega
  rw [sumN_const] at h3 h5
  rw [show ((l.length : Int) + 1) * p = l.length * p + p by rw [Int.add_mul, Int.one_mul], Int.mul_comm _ p]
  refine ⟨by omega, by omega, by omega, by omega, by omega, by omega⟩
theorem loop (l : List Int) (p : Int) (hl : l.length ≤ 10) (hp0 : 1 ≤ p) (hp1 : p ≤ 10000) : ∀ (d k i : Nat), i ≤ l.length → l.length - i = d → 2 * d + 40 < k → (∀ j, j < i → 1 ≤ gA l j ∧ gA l j ≤ 1000) →
    tocsinlaw12_UtilSums.l0 k l p ((List.range i).map (gS l p)) (sumN (gA l) i) (i : Int) = some true := by
  intro d
  induction d with
  | zero =>
    intro k i hi hd hk hg
    obtain ⟨k, rfl⟩ : ∃ m, k = m + 1 := ⟨k - 1, by omega⟩
    simp only [tocsinlaw12_UtilSums.l0]
    obtain rfl : i = l.length := by omega
    have he := end_ l p hl hp0 hp1 hg
    rw [if_neg (by omega), sum_is k (gS l p) l.length hl (fun i hi => by
      have := hg i hi
      have := up_pos (x := gA l i * 1048576) (c := p) (by omega) (by omega)
      show 0 ≤ upd (gA l i * 1048576) p ∧ upd (gA l i * 1048576) p ≤ 1048576000
      omega) (by omega)]
    simp only [Option.bind_some, if_true]
    have b1 := mul_bd0 (x := sumN (gS l p) l.length) (y := p) 10485760000 10000 (by omega) (by omega) (by omega) (by omega)
    have b2 := mul_bd0 (x := ((l.length : Int) + 1)) (y := p) 11 10000 (by omega) (by omega) (by omega) (by omega)
    rw [w64 (x := (l.length : Int) + 1) (by omega) (by omega), w64 (x := sumN (gS l p) l.length * p) (by omega) (by omega), w64 (x := sumN (gA l) l.length * 1048576) (by omega) (by omega), w64 (x := ((l.length : Int) + 1) * p) (by omega) (by omega), w64 (x := sumN (gA l) l.length * 1048576 + ((l.length : Int) + 1) * p) (by omega) (by omega)]
    rw [if_pos he.1]
    congr 1; rw [decide_eq_true_iff]; exact he.2.1
  | succ d ih =>
    intro k i hi hd hk hg
    obtain ⟨k, rfl⟩ : ∃ m, k = m + 1 := ⟨k - 1, by omega⟩
    obtain ⟨k, rfl⟩ : ∃ m, k = m + 1 := ⟨k - 1, by omega⟩
    simp only [tocsinlaw12_UtilSums.l0]
    rw [if_pos (by omega), if_pos (by omega)]
    by_cases h1 : rd l (i : Int) < 1
    · rw [if_pos h1]; simp only [tocsinlaw12_UtilSums.j2, if_true]
    · rw [if_neg h1]
      simp only [tocsinlaw12_UtilSums.j2]
      by_cases h2 : rd l (i : Int) > 1000
      · rw [decide_eq_true h2]; rfl
      · rw [decide_eq_false h2]
        simp only [Bool.false_eq_true, if_false]
        have hb0 := sumN_nonneg (f := gA l) i fun j hj => by have := hg j hj; omega
        have hb1 : sumN (gA l) i ≤ sumN (fun _ => 1000) i := sumN_le _ fun j hj => (hg j hj).2
        rw [sumN_const] at hb1
        rw [if_pos (by omega), if_pos (by omega), of_is _ p (by omega)]
        have e : shareOf (rd l (i : Int)) p = (gS l p i, true) := by unfold shareOf; rw [if_pos (by omega)]; rfl
        rw [e]
        simp only [Option.bind_some, if_true]
        rw [if_pos (by simp; omega), map_snoc, w64 (x := sumN (gA l) i + rd l (i : Int)) (by omega) (by omega), w64 (x := (i : Int) + 1) (by omega) (by omega), show ((i : Int) + 1) = ((i + 1 : Nat) : Int) by omega]
        exact ih k (i + 1) (by omega) (by omega) (by omega) fun j hj => by
          by_cases g : j = i
          · subst g; unfold gA; omega
          · exact hg j (by omega)
theorem law (l : List Int) (p : Int) : tocsinlaw12_UtilSums.f 100 l p = some true := by
  unfold tocsinlaw12_UtilSums.f
  rw [awake_is _ (by omega)]
  simp only [Option.bind_some, if_true, tocsinlaw12_UtilSums.j0]
  refine g_if fun h1 => g_if fun h2 => ?_
  by_cases h3 : p > 10000
  · rw [decide_eq_true h3]; rfl
  · rw [decide_eq_false h3]
    simp only [Bool.false_eq_true, if_false]
    have := loop l p (by omega) (by omega) (by omega) l.length 99 0 (by omega) (by omega) (by omega) (fun j hj => absurd hj (by omega))
    simpa [sumN] using this
def IsRow (k : IntKind) (w : World) (a : Option Addr) (len cap : Nat) (zs : List Int) : Prop :=
  (a = none ∧ len = 0 ∧ cap = 0 ∧ zs = []) ∨
  ∃ x, a = some x ∧ len ≤ cap ∧ cap ≤ maxLen ∧ zs.length = cap ∧ (∀ i, i < zs.length → w.cell? (x.add i) = some (.int k (zs.getD i 0))) ∧ ∀ n ∈ zs, (Lit.int k n).wf = true
theorem own : ownKnob Tryd.prog.godebug = none := by kernel_rfl
theorem Tryd.laidOut : laidOutB Tryd.prog = true := by kernel_rfl
open Go.ChangeShapes Go.WideShapes Go.ChangeAt Go.RowKit
open Go.ChangeMaps (open_string shut_string)
abbrev laidL : List (String × DataW Unit) := [("math/bits.deBruijn32tab", Rows.laid_math_bits_deBruijn32tab), ("math/bits.deBruijn64tab", Rows.laid_math_bits_deBruijn64tab), ("internal/strconv.uint64pow10", Rows.laid_internal_strconv_uint64pow10)]
theorem door_met (os : Os) (args : Array Value) : laidMetH Tryd.prog laidL ((World.doorLaid Tryd.prog 400 os).forCall (fun _ _ => 0) ⟨#[], args, []⟩).memory :=
  laidMetH_of_parts3 (fuel := 8) (laidMet_of_run' 8 (by kernel_rfl) (by kernel_rfl)) (by kernel_rfl) (by kernel_rfl)
theorem tab_of_laid {W : World} (h : laidMetH Tryd.prog laidL W) : Tab W := by
  rw [MakeChecks.laidMetH_plain _ _ _ (by kernel_rfl)] at h
  obtain ⟨ps, ⟨g0, t0, cs0, f0, p0, q0, hg0, ht0, hv0, hd0, ⟨g1, t1, cs1, f1, p1, q1, hg1, ht1, hv1, hd1, ⟨g2, t2, cs2, f2, p2, q2, hg2, ht2, hv2, hd2, _, _⟩, _⟩, _⟩, _⟩ := h
  obtain rfl := Option.some.inj (gTab.symm.trans hg2)
  obtain rfl := Option.some.inj ((show (Tryd.prog.globals[2]?).map (·.type) = some 70 by kernel_rfl).symm.trans ht2)
  unfold Tab Lib.TabIs
  rw [hv2, ← Lib.cells_of_tab (n := 20) (e := 41) Tryd.underlying70 Tryd.underlying41 (by kernel_rfl) (by kernel_rfl) hd2]
set_option maxRecDepth 100000 in
theorem lifted (os : Os) (started : os.Started) (H : Type) (enc : TypeId × Value → H) :
    ReturnsInHanded {} Tryd.checked os 7 .any (fun w args => (Rows.utilSumsSpec.pre enc Tryd.prog Tryd.f7 Rows.utilSumsRow.domain false w args ∧ laidMetH Tryd.prog laidL w) ∧ sizedMet enc Tryd.prog Tryd.f7 (OpenSpec.ofChange Rows.utilSumsSpec) false w args) (Rows.utilSumsSpec.post enc Tryd.prog Tryd.f7 false true false false) := by
  refine returnsInHanded_of_change_and (C := Tryd.checked) (X := fun w _ => laidMetH Tryd.prog laidL w) (fun _ _ _ hh h => h.of_heap hh) own started (by kernel_rfl) Tryd.func7
    (ChangeSpec.witness_shaped (enc := enc) (C := Tryd.checked) (os := os) (X := fun w _ => laidMetH Tryd.prog laidL w) false (World.doorLaid Tryd.prog 400 os) #[.slice none 0 0, .int .i64 0] 8 rfl (World.shaped_of_RefB (by kernel_rfl) (by kernel_rfl)) (by kernel_rfl) (by kernel_rfl) (by kernel_rfl) (door_met os _)) ?_
  intro W base args ds gs before hval0 hW hcnd hsz0 hL _
  have hTb := tab_of_laid hL
  have hsz : (DataW.weightsEach Tryd.prog (Tryd.f7.params.toList ++ Rows.utilSumsSpec.plain.varTypes Tryd.prog) (ds ++ gs)).all (· ≤ reachBytes) = true := hsz0
  have hval : ∀ (j : Nat) t v, Tryd.f7.params[j]? = some t → args[j]? = some v → Value.okWide Tryd.prog W .any base t v := hval0
  have hW' := hW
  obtain ⟨p, q, hA0, hV, rfl, hfz, hnd⟩ := hW
  have hA : DataW.TrodAll enc Tryd.prog W 0 (fun _ => true) true Tryd.f7.params.toList args.toList ds p := hA0
  rw [Tryd.params7] at hA hval hsz
  obtain ⟨v0, vs0, d0, ds0, p0, q0, hargs, rfl, rfl, h0, r0⟩ := trodAll_cons hA
  obtain ⟨v1, vs1, d1, ds1, p1, q1, rfl, rfl, rfl, h1, r1⟩ := trodAll_cons r0
  obtain ⟨rfl, rfl, rfl⟩ := trodAll_nil r1
  obtain rfl : args = #[v0, v1] := by cases args; simp_all
  obtain ⟨rfl, rfl⟩ := trodVars_none hV
  have k0 := h0
  have k1 := h1
  have lt0 : ∀ x ∈ p0, x.block < W.heap.size := by obtain ⟨m, hm⟩ := k0; exact DataW.trod_lt m _ _ _ hm
  have lt1 : ∀ x ∈ p1, x.block < W.heap.size := by obtain ⟨m, hm⟩ := k1; exact DataW.trod_lt m _ _ _ hm
  obtain ⟨a0, len0, cap0, rfl⟩ := okWide_slice Tryd.underlying34 (hval 0 34 v0 rfl rfl)
  obtain ⟨z0, w0⟩ : ∃ zs, IsRow .i64 W a0 len0 cap0 zs := by
    obtain ⟨fuel, hf⟩ := h0
    rcases open_ints Tryd.underlying34 Tryd.underlying3 (by kernel_rfl) hf with ⟨hcs, _⟩ | ⟨x, l, c, zs, hcs, _, hl, hm, hz, _, hcell, hwz⟩
    · simp [Value.cells] at hcs
      obtain ⟨rfl, rfl, rfl⟩ := hcs
      exact ⟨[], .inl ⟨rfl, rfl, rfl, rfl⟩⟩
    · simp [Value.cells] at hcs
      obtain ⟨rfl, rfl, rfl⟩ := hcs
      exact ⟨zs, .inr ⟨_, rfl, hl, hm, by simpa using hz, hcell, hwz⟩⟩
  have y0 : len0 * 8 ≤ 140737488351232 := sized_ints hsz (j := 0) (t := 34) rfl rfl Tryd.underlying34 Tryd.underlying3 (by kernel_rfl) (by kernel_rfl) h0
  obtain ⟨l0, rfl, hr0, hm0, hw0, hc0⟩ := ReadsInt.ofRowC w0
  obtain ⟨a1, rfl, rfl, rfl, w1⟩ := open_int Tryd.underlying3 (hval 1 3 v1 rfl rfl) h1
  clear hA0 hval0 hsz0 hsz
  refine (tocsinlaw12_UtilSums.calls 100 a0 cap0 l0 a1 true W hTb (Kd.C_of_reads (d := (0 : Int)) (h1 := fun _ => rfl) hr0) hc0 (law l0 a1) rfl).mono fun e W' ⟨he, bel⟩ => ?_
  subst he
  exact ⟨_, rfl, _, _, _, _, _, [], hW', trodAll_mk1 (shut_bool Tryd.underlying4 _), (trodAll_cons_mk (Below.trod Tryd.laidOut (by kernel_rfl) (of_decide_eq_true (by kernel_rfl)) k0 bel lt0) (trodAll_cons_mk (Below.trod Tryd.laidOut (by kernel_rfl) (of_decide_eq_true (by kernel_rfl)) k1 bel lt1) trodAll_mk0)), rfl, bel.frame _, fun h => by cases h⟩
theorem over : Rows.utilSumsRow.holds Tryd.pinned (OpenSpec.ofChange Rows.utilSumsSpec) :=
  OpenClaim.holds_of_wide 7 Tryd.f7 rfl rfl rfl rfl rfl rfl rfl ⟨rfl, rfl, rfl, rfl, rfl⟩ rfl rfl rfl rfl rfl (by kernel_rfl) Tryd.func7 (by kernel_rfl)
    (of_decide_eq_true (by kernel_rfl)) (by unfold Func.isWrapper; first | (rw [if_pos (by decide +kernel)]; kernel_rfl) | (rw [if_neg (by decide +kernel)]; exact ⟨rfl, rfl⟩))
    (fun os started H enc _ => lifted os started H enc)
end Go.Proofs.YteahinhmdeakfaaDoor.Pure
namespace Go.Proofs.YteahinhmdeakfaaDoor
open Go
/-- The tied card. -/
theorem utilSumsCard_holds : Rows.UtilSumsCardSaid :=
  Claim7.holds_tied_plain_at .later [] [.data, .data, .data] true (true, "48a580eb6154ba227cf72675b8cbe52c1496aae00cba3b164a538688a71db16a") false
    Pure.over (fun _ h => by cases h) (by kernel_rfl) (fun _ h => by cases h) utilSums_row_tie rfl ⟨rfl, rfl⟩ (by kernel_rfl) rfl
    (fun f fn hf hfn => by
      obtain rfl : f = 7 := Option.some.inj ((show Tryd.prog.funcNamed "tocsin/tocsinlaw12.UtilSums" = some 7 by kernel_rfl).symm.trans hf) |>.symm
      obtain rfl : fn = Tryd.f7 := (Option.some.inj (Tryd.func7.symm.trans hfn)).symm
      exact ⟨by kernel_rfl, fun j t ht => by
        rw [Tryd.params7] at ht
        have hm : t ∈ ([34, 3] : List TypeId) := by simpa using Array.mem_of_getElem? ht
        have hall : (([34, 3] : List TypeId).all fun u => !Tryd.prog.wantsStandIn u) = true := by kernel_rfl
        exact (show Tryd.prog.wantsStandIn t = false by simpa using List.all_eq_true.1 hall t hm)⟩)
    (by kernel_rfl)
end Go.Proofs.YteahinhmdeakfaaDoor
#print axioms Go.Proofs.YteahinhmdeakfaaDoor.utilSumsCard_holds
namespace Go.Proofs.YteahinhmdeakfaaDoor.Pure

end Go.Proofs.YteahinhmdeakfaaDoor.Pure
