/- What the reference of chapter 11 comes to, in plain numbers. -/
import Derived.Test.YtkjboaepeecinaaPSkx12
import Derived.Test.YtkjboaepeecinaaSkDem
namespace Go.Proofs.Ytkjboaepeecinaa.Pure
open Go.RowKit Go.Proofs.Ytkjboaepeecinaa.PSk Go.Proofs.YtkjboaepeecinaaW.PrintWords Go.Proofs.YtkjboaepeecinaaW.PrintLast Go.Proofs.YtkjboaepeecinaaW.PrintMore 
set_option linter.unusedVariables false
set_option linter.unusedSimpArgs false

theorem rsize_is (a : Int) (h0 : -9223372036854775808 ≤ a) (h1 : a ≤ 9223372036854775807) : tocsinref1_size.f a = some (a.natAbs : Int) := by
  unfold tocsinref1_size.f wrap64
  simp only [IntKind.wrap_u64]
  split <;> (congr 1; omega)
theorem rmul_is (a b : Int) (ha0 : 0 ≤ a) (ha1 : a < 18446744073709551616) (hb0 : 0 ≤ b) (hb1 : b < 18446744073709551616) :
    tocsinref1_mul.f a b = some (a * b / 18446744073709551616, a * b % 18446744073709551616) := by
  obtain ⟨p, q, r, s, hp, hq, hr, hs, he, b1⟩ := mul_parts ha0 ha1 hb0 hb1
  unfold tocsinref1_mul.f
  rw [mask32 ha0 ha1, mask32 hb0 hb1, hp, hq, hr, hs, he]
  simp only [IntKind.wrap_u64]
  rw [mask32 (by omega) (by omega), mask32 (by omega) (by omega)]
  rw [bits_join .u64 64 (by decide) (fun n h h' => by rw [IntKind.wrap_u64]; omega) 32 _ _ (by omega) (by omega) (by omega) (by omega) (by omega) (by omega)]
  congr 2 <;> omega
theorem times_is (a b : Int) (ha0 : -9223372036854775808 ≤ a) (ha1 : a ≤ 9223372036854775807) (hb0 : -9223372036854775808 ≤ b) (hb1 : b ≤ 9223372036854775807) :
    tocsinref1_times.f a b = some (decide (a * b < 0), ((a * b).natAbs : Int) / 18446744073709551616, ((a * b).natAbs : Int) % 18446744073709551616) := by
  have hbd := natAbs_bd a b ha0 ha1 hb0 hb1
  unfold tocsinref1_times.f
  rw [rsize_is a ha0 ha1, rsize_is b hb0 hb1]
  simp only [Option.bind_some]
  rw [rmul_is _ _ (by omega) (by omega) (by omega) (by omega), natAbs_mul_i]
  simp only [Option.bind_some]
  have hn := neg_mul_iff a b
  by_cases h : ((decide (a < 0)) != (decide (b < 0))) = true
  · rw [if_pos h]
    have hn : a * b < 0 ↔ a * b ≠ 0 := ⟨fun g => (hn.1 g).2, fun g => hn.2 ⟨h, g⟩⟩
    by_cases g : ((a * b).natAbs : Int) / 18446744073709551616 = 0
    · rw [if_pos g]
      congr 2
      rw [Bool.eq_iff_iff, bne_iff_ne, decide_eq_true_iff]
      omega
    · rw [if_neg g]
      congr 2
      symm; rw [decide_eq_true_iff]; omega
  · rw [if_neg h]
    congr 2
    have : ¬ a * b < 0 := fun g => h (hn.1 g).1
    simp [this]

theorem rmulh_is (k : Nat) (a b : Int) (ha : -9223372036854775808 ≤ a ∧ a ≤ 9223372036854775807) (hb : -9223372036854775808 ≤ b ∧ b ≤ 9223372036854775807) : tocsinref1_Mul.f (k + 1) a b = some (held64 (a * b)) := by
  have hP := natAbs_bd a b ha.1 ha.2 hb.1 hb.2
  unfold tocsinref1_Mul.f
  rw [times_is a b ha.1 ha.2 hb.1 hb.2]
  generalize a * b = x at *
  simp only [Option.bind_some, tocsinref1_Mul.j0]
  by_cases h : (x.natAbs : Int) / 18446744073709551616 = 0
  · rw [if_pos h]
    by_cases h1 : (x.natAbs : Int) % 18446744073709551616 > 9223372036854775808
    · rw [if_pos h1, held64_out (by omega)]; rfl
    · rw [if_neg h1]
      by_cases h2 : (x.natAbs : Int) % 18446744073709551616 = 9223372036854775808
      · rw [if_pos h2]
        by_cases h3 : x < 0
        · simp only [h3, decide_true, Bool.not_true, Bool.false_eq_true, if_false, if_true]
          rw [held64_in (by omega) (by omega)]
          congr 2
          rw [IntKind.wrap_u64]; unfold wrap64; omega
        · simp only [h3, decide_false, Bool.not_false, if_true]
          rw [held64_out (by omega)]
      · rw [if_neg h2, held64_in (by omega) (by omega)]
        simp only [Bool.false_eq_true, if_false, decide_eq_true_eq]
        split
        · congr 2; rw [IntKind.wrap_u64]; unfold wrap64; omega
        · congr 2; unfold wrap64; omega
  · rw [if_neg h, held64_out (by omega)]; rfl

theorem rgcd_loop : ∀ (y x k : Nat), y < k → x < 9223372036854775808 → y < 9223372036854775808 → tocsinref1_Gcd.l0 k (x : Int) (y : Int) = some (Nat.gcd y x : Int) := by
  intro y
  induction y using Nat.strongRecOn with
  | ind y ih =>
    intro x k hk hx hy
    obtain ⟨k, rfl⟩ : ∃ m, k = m + 1 := ⟨k - 1, by omega⟩
    simp only [tocsinref1_Gcd.l0]
    by_cases h : y = 0
    · subst h
      rw [if_pos (by omega), w64 (by omega) (by omega), Nat.gcd_zero_left]
    · rw [if_neg (by omega)]
      have hm : x % y < y := Nat.mod_lt _ (by omega)
      rw [show Int.tmod (x : Int) (y : Int) = ((x % y : Nat) : Int) by rw [Int.tmod_eq_emod_of_nonneg (by omega)]; simp]
      rw [ih (x % y) hm y k (by omega) hy (by omega)]
      rw [Nat.gcd_rec y x]
theorem rgcd_is (k : Nat) (a b : Int) (ha : -9223372036854775808 ≤ a ∧ a ≤ 9223372036854775807) (hb : -9223372036854775808 ≤ b ∧ b ≤ 9223372036854775807) (hk : 9223372036854775810 ≤ k) : tocsinref1_Gcd.f k a b = some (gcdI a b) := by
  obtain ⟨k, rfl⟩ : ∃ m, k = m + 1 := ⟨k - 1, by omega⟩
  unfold tocsinref1_Gcd.f gcdI
  by_cases h : a = -9223372036854775808
  · rw [if_pos h, if_pos (Or.inl h)]; simp only [tocsinref1_Gcd.j0, if_true]
  · rw [if_neg h]
    simp only [tocsinref1_Gcd.j0]
    by_cases g : b = -9223372036854775808
    · rw [if_pos (by simp [g]), if_pos (Or.inr g)]
    · rw [if_neg (by simp [g]), if_neg (by omega), rsize_is a ha.1 ha.2, rsize_is b hb.1 hb.2]
      simp only [Option.bind_some]
      rw [rgcd_loop b.natAbs a.natAbs k (by omega) (by omega) (by omega), Nat.gcd_comm]

theorem rlcm_loop (most : Int) (l : List Int) (hm : most ≤ 9223372036854775807) (hl : ∀ x ∈ l, x ≤ 9223372036854775807) (hlen : l.length < 9223372036854775807) : ∀ (d k i n : Nat), i ≤ l.length → l.length - i = d → d + 9223372036854775810 < k → 0 < n → n ≤ 9223372036854775807 →
    tocsinref1_Lcm.l0 k most l (n : Int) (i : Int) = some (lcmS most n (l.drop i)) := by
  intro d
  induction d with
  | zero =>
    intro k i n hi hd hk hn hn2
    obtain ⟨k, rfl⟩ : ∃ m, k = m + 1 := ⟨k - 1, by omega⟩
    simp only [tocsinref1_Lcm.l0]
    rw [if_neg (by omega), List.drop_of_length_le (by omega)]
    unfold lcmS
    by_cases h : (n : Int) > most
    · rw [if_pos h, if_neg (by simp only [lcmFrom]; omega)]
    · rw [if_neg h, if_pos ⟨by simp, by simp only [lcmFrom]; omega⟩]; rfl
  | succ d ih =>
    intro k i n hi hd hk hn hn2
    obtain ⟨k, rfl⟩ : ∃ m, k = m + 1 := ⟨k - 1, by omega⟩
    have hx2 := hl _ (rd_mem l i (by omega))
    rw [drop_rd l i (by omega)]
    simp only [tocsinref1_Lcm.l0]
    rw [if_pos (by omega), if_pos (by omega)]
    generalize rd l (i : Int) = x at *
    by_cases h1 : x < 1
    · rw [if_pos h1, lcmS_low _ _ _ _ h1]
    · rw [if_neg h1]
      have ⟨g1, g2, g3, g4, g5, g6, g7, g8⟩ := gcd_div n x hn (by omega) hx2 (by omega)
      rw [rgcd_is k _ _ (by omega) (by omega) (by omega), g1]
      simp only [Option.bind_some]
      rw [if_neg g2]
      obtain ⟨k, rfl⟩ : ∃ m, k = m + 1 := ⟨k - 1, by omega⟩
      rw [w64 (x := Int.tdiv (n : Int) _) (by omega) (by omega), rmulh_is k _ _ (by omega) (by omega), g4]
      have hpos : 0 < Nat.lcm n x.natAbs := Nat.lcm_pos hn (by omega)
      simp only [Option.bind_some]
      rw [w64 (x := (i : Int) + 1) (by omega) (by omega)]
      by_cases hb : (Nat.lcm n x.natAbs : Int) ≤ 9223372036854775807
      · rw [held64_in (by omega) hb, lcmS_step _ _ _ _ (by omega)]
        simp only [if_true]
        exact ih (k + 1) (i + 1) _ (by omega) (by omega) (by omega) hpos (by omega)
      · rw [held64_out (by omega), lcmS_over _ _ _ _ hn (by omega)]; rfl
theorem rlcm_is (k : Nat) (most : Int) (l : List Int) (hm : most ≤ 9223372036854775807) (hl : ∀ x ∈ l, x ≤ 9223372036854775807) (hlen : l.length < 9223372036854775807) (hk : l.length + 9223372036854775810 < k) :
    tocsinref1_Lcm.f k most l = some (lcmS most 1 l) := by
  unfold tocsinref1_Lcm.f
  have := rlcm_loop most l hm hl hlen l.length k 0 1 (by omega) (by omega) (by omega) (by omega) (by omega)
  exact this

def qR (x : S66) : T3 := (x.f0, x.f1, x.f2)
theorem rgoodT_is (p n s : Int) : tocsinref1_GoodTask.f p n s = some (goodTB p n s) := by
  unfold tocsinref1_GoodTask.f goodTB
  repeat' split
  all_goals (congr 1; first | rfl | (rw [decide_eq_decide]; omega) | (symm; rw [decide_eq_true_iff]; omega) | (symm; rw [decide_eq_false_iff_not]; omega))
theorem rof_is (k : Nat) (p n s long : Int) (hl : -9223372036854775808 ≤ long ∧ long ≤ 9223372036854775807) (hk : 1 ≤ k) : tocsinref1_Of.f k p n s long = some (ofS (p, n, s) long) := by
  obtain ⟨k, rfl⟩ : ∃ m, k = m + 1 := ⟨k - 1, by omega⟩
  have hb := of_bd (p, n, s) long
  unfold tocsinref1_Of.f
  rw [rgoodT_is]
  unfold ofS at *
  simp only [Option.bind_some, tocsinref1_Of.j0]
  cases hg : goodTB p n s
  · simp
  · have ⟨h1, h2, h3, h4, h5⟩ := goodTB_iff hg
    simp only [if_true, true_and, decide_eq_true_eq, hg] at *
    by_cases h0 : long < 0
    · rw [if_pos h0, if_neg (by omega)]
    · rw [if_neg h0, if_neg (show ¬ p = 0 by omega), if_neg (show ¬ p = 0 by omega)]
      rw [if_pos (show 0 ≤ long by omega)] at hb ⊢
      have key : ∀ L : Int, 0 ≤ L → L ≤ 1000000 → min long 1000000 = L → (if s > 0 then (if s = 0 then none else some (wrap64 (wrap64 (wrap64 (Int.tdiv L p) - wrap64 (Int.tdiv (wrap64 (Int.tdiv L p)) s)) * n))) else some (wrap64 (wrap64 (Int.tdiv L p) * n))) = some ((if 0 < s then min long 1000000 / p - min long 1000000 / p / s else min long 1000000 / p) * n) := by
        intro L hL0 hL1 hL
        rw [hL] at hb ⊢
        have hm0 : 0 ≤ L / p := Int.ediv_nonneg (by omega) (by omega)
        have hm1 : L / p ≤ 1000000 := Int.le_trans (Int.ediv_le_self _ (by omega)) (by omega)
        rw [Int.tdiv_eq_ediv_of_nonneg hL0]
        generalize L / p = m at *
        rw [w64 (x := m) (by omega) (by omega)]
        by_cases hs : s > 0
        · have hd0 : 0 ≤ m / s := Int.ediv_nonneg hm0 (by omega)
          have hd1 : m / s ≤ m := Int.ediv_le_self _ hm0
          rw [if_pos hs] at hb
          rw [if_pos hs, if_neg (show ¬ s = 0 by omega), if_pos hs, Int.tdiv_eq_ediv_of_nonneg hm0, w64 (x := m / s) (by omega) (by omega), w64 (x := m - m / s) (by omega) (by omega), w64 (x := (m - m / s) * n) (by omega) (by omega)]
        · rw [if_neg hs] at hb
          rw [if_neg hs, if_neg hs, w64 (x := m * n) (by omega) (by omega)]
      by_cases hb2 : long > 1000000
      · rw [if_pos hb2]
        exact key 1000000 (by omega) (by omega) (by omega)
      · rw [if_neg hb2]
        exact key long (by omega) (by omega) (by omega)
theorem drop_rdR (l : List S66) (i : Nat) (h : i < l.length) : l.drop i = rd_T66 l (i : Int) :: l.drop (i + 1) := by
  rw [List.drop_eq_getElem_cons h]
  congr 1
  unfold rd_T66
  rw [show ((i : Int)).toNat = i by omega, List.getD_eq_getElem?_getD, List.getElem?_eq_getElem h]; rfl
theorem rall_loop (l : List S66) (long : Int) (hl : -9223372036854775808 ≤ long ∧ long ≤ 9223372036854775807) (hlen : l.length ≤ 20) : ∀ (d k i : Nat) (acc : Int), i ≤ l.length → l.length - i = d → d + 1 < k → 0 ≤ acc → acc ≤ i * 1000000000 →
    tocsinref1_All.l0 k l long acc (i : Int) = some (acc + sumS ((l.drop i).map qR) long) := by
  intro d
  induction d with
  | zero =>
    intro k i acc hi hd hk h0 h1
    obtain ⟨k, rfl⟩ : ∃ m, k = m + 1 := ⟨k - 1, by omega⟩
    simp only [tocsinref1_All.l0]
    rw [if_neg (by omega), List.drop_of_length_le (by omega)]
    simp [sumS]
  | succ d ih =>
    intro k i acc hi hd hk h0 h1
    obtain ⟨k, rfl⟩ : ∃ m, k = m + 1 := ⟨k - 1, by omega⟩
    simp only [tocsinref1_All.l0]
    rw [if_pos (by omega), if_pos (by omega), rof_is k _ _ _ _ hl (by omega), drop_rdR l i (by omega)]
    generalize rd_T66 l (i : Int) = t
    have hb := of_bd (t.f0, t.f1, t.f2) long
    rw [List.map_cons, sumS_cons, show qR t = (t.f0, t.f1, t.f2) from rfl]
    generalize ofS (t.f0, t.f1, t.f2) long = v at *
    simp only [Option.bind_some]
    rw [w64 (x := acc + v) (by omega) (by omega), w64 (x := (i : Int) + 1) (by omega) (by omega)]
    have := ih k (i + 1) (acc + v) (by omega) (by omega) (by omega) (by omega) (by omega)
    rw [show ((i : Int) + 1) = ((i + 1 : Nat) : Int) by omega, this, Int.add_assoc]
theorem rall_is (k : Nat) (l : List S66) (long : Int) (hl : -9223372036854775808 ≤ long ∧ long ≤ 9223372036854775807) (hk : 23 ≤ k) : tocsinref1_All.f k l long = some (allS (l.map qR) long) := by
  unfold tocsinref1_All.f allS
  rw [List.length_map]
  by_cases h : (l.length : Int) > 20
  · rw [if_pos h, if_pos (by omega)]
  · rw [if_neg h, if_neg (by omega)]
    have := rall_loop l long hl (by omega) l.length k 0 0 (by omega) (by omega) (by omega) (by omega) (by omega)
    rw [List.drop_zero, Int.zero_add] at this
    exact this
theorem rframe_loop (l : List S66) (hlen : l.length ≤ 20) : ∀ (d k i : Nat) (acc : List Int), i ≤ l.length → l.length - i = d → d + 9223372036854775840 < k → acc = ((l.take i).map qR).map longS → (∀ t ∈ l.take i, goodTB t.f0 t.f1 t.f2 = true) →
    tocsinref1_Frame.l0 k l acc (i : Int) = some (frameS (l.map qR)) := by
  have ha : ((l.map qR).any fun t => !goodTB t.1 t.2.1 t.2.2) = l.any fun t => !goodTB t.f0 t.f1 t.f2 := by rw [List.any_map]; rfl
  have hF : frameS (l.map qR) = if (l.any fun t => !goodTB t.f0 t.f1 t.f2) = true then (0, 1) else if (lcmS 100000 1 ((l.map qR).map longS)).2 = true then ((lcmS 100000 1 ((l.map qR).map longS)).1, 0) else (0, 2) := by
    unfold frameS
    rw [List.length_map, ha]
    have : ¬ 20 < l.length := by omega
    simp only [this, false_or]
  rw [hF]
  intro d
  induction d with
  | zero =>
    intro k i acc hi hd hk hacc hg
    obtain ⟨k, rfl⟩ : ∃ m, k = m + 1 := ⟨k - 1, by omega⟩
    simp only [tocsinref1_Frame.l0]
    rw [List.take_of_length_le (by omega)] at hacc hg
    subst hacc
    have hb : ∀ x ∈ (l.map qR).map longS, x ≤ 9223372036854775807 := by
      intro x hx
      obtain ⟨y, hy, rfl⟩ := List.mem_map.1 hx
      obtain ⟨t, ht, rfl⟩ := List.mem_map.1 hy
      have := long_bd (t := qR t) (hg t ht)
      omega
    have hn : ¬ (l.any fun t => !goodTB t.f0 t.f1 t.f2) = true := by
      intro h
      obtain ⟨t, ht, h⟩ := List.any_eq_true.1 h
      rw [hg t ht] at h; exact absurd h (by decide)
    rw [if_neg (by omega), if_neg hn, rlcm_is k 100000 _ (by omega) hb (by simp; omega) (by simp; omega)]
    simp only [Option.bind_some]
    split <;> rfl
  | succ d ih =>
    intro k i acc hi hd hk hacc hg
    obtain ⟨k, rfl⟩ : ∃ m, k = m + 1 := ⟨k - 1, by omega⟩
    simp only [tocsinref1_Frame.l0]
    have hlen2 : acc.length ≤ 20 := by subst hacc; simp; omega
    have hm : rd_T66 l (i : Int) ∈ l := by
      have := drop_rdR l i (by omega)
      exact List.mem_of_mem_drop (i := i) (by rw [this]; simp)
    have hget : l[i]'(by omega) = rd_T66 l (i : Int) := by
      have := drop_rdR l i (by omega)
      rw [List.drop_eq_getElem_cons (by omega)] at this
      injection this with e1 e2
    rw [if_pos (by omega), if_pos (by omega), rgoodT_is]
    simp only [Option.bind_some]
    cases hgt : goodTB (rd_T66 l (i : Int)).f0 (rd_T66 l (i : Int)).f1 (rd_T66 l (i : Int)).f2
    · rw [if_pos (List.any_eq_true.2 ⟨_, hm, by rw [hgt]; rfl⟩)]
      simp only [Bool.false_eq_true, if_false]
    · have hb := long_bd (t := qR (rd_T66 l (i : Int))) hgt
      have hq := goodTB_iff hgt
      have he : ((l.take (i + 1)).map qR).map longS = acc ++ [longS (qR (rd_T66 l (i : Int)))] := by
        rw [List.take_succ_eq_append_getElem (by omega), List.map_append, List.map_append, ← hacc, hget]; rfl
      have hg2 : ∀ t ∈ l.take (i + 1), goodTB t.f0 t.f1 t.f2 = true := by
        intro t ht
        rw [List.take_succ_eq_append_getElem (by omega), List.mem_append, hget] at ht
        rcases ht with ht | ht
        · exact hg t ht
        · rw [List.mem_singleton.1 ht]; exact hgt
      have hL : longS (qR (rd_T66 l (i : Int))) = (rd_T66 l (i : Int)).f0 * max (rd_T66 l (i : Int)).f2 1 := rfl
      rw [hL] at hb he
      clear hL hget hm hgt
      generalize rd_T66 l (i : Int) = t at *
      simp only [if_true]
      rw [if_pos (show acc.length < 17592186044416 by omega)]
      rw [w64 (x := (i : Int) + 1) (by omega) (by omega)]
      by_cases hs : t.f2 > 0
      · rw [show max t.f2 1 = t.f2 by omega] at hb he
        rw [if_pos hs, w64 (x := t.f0 * t.f2) (by omega) (by omega)]
        exact ih k (i + 1) _ (by omega) (by omega) (by omega) he.symm hg2
      · rw [show max t.f2 1 = 1 by omega, Int.mul_one] at hb he
        rw [if_neg hs, if_pos (show acc.length < 17592186044416 by omega)]
        exact ih k (i + 1) _ (by omega) (by omega) (by omega) he.symm hg2
theorem rframe_is (k : Nat) (l : List S66) (hk : 9223372036854775900 ≤ k) : tocsinref1_Frame.f k l = some (frameS (l.map qR)) := by
  unfold tocsinref1_Frame.f
  by_cases h : (l.length : Int) > 20
  · rw [if_pos h]
    unfold frameS
    rw [List.length_map, if_pos (Or.inl (by omega))]
  · rw [if_neg h]
    exact rframe_loop l (by omega) l.length k 0 [] (by omega) (by omega) (by omega) rfl (by simp)
theorem rholds_loop (l : List S66) (n : Int) (hn : n ≤ 100000) : ∀ (d k : Nat) (i : Int), 1 ≤ i → n + 1 - i = d → d + 30 < k →
    tocsinref1_Holds.l0 k l n i = some ((List.range d).all fun j => decide (allS (l.map qR) (i + j) ≤ i + j), 0) := by
  intro d
  induction d with
  | zero =>
    intro k i h1 hd hk
    obtain ⟨k, rfl⟩ : ∃ m, k = m + 1 := ⟨k - 1, by omega⟩
    simp only [tocsinref1_Holds.l0]
    rw [if_neg (by omega)]; rfl
  | succ d ih =>
    intro k i h1 hd hk
    obtain ⟨k, rfl⟩ : ∃ m, k = m + 1 := ⟨k - 1, by omega⟩
    simp only [tocsinref1_Holds.l0]
    rw [if_pos (by omega), rall_is k l i (by omega) (by omega)]
    simp only [Option.bind_some]
    rw [List.range_succ_eq_map, List.all_cons]
    by_cases h : allS (l.map qR) i > i
    · rw [if_pos h]
      simp only [Int.natCast_zero, Int.add_zero]
      rw [decide_eq_false (by omega)]; rfl
    · rw [if_neg h, w64 (x := i + 1) (by omega) (by omega), ih k (i + 1) (by omega) (by omega) (by omega)]
      simp only [Int.natCast_zero, Int.add_zero]
      rw [decide_eq_true (show allS (l.map qR) i ≤ i by omega), Bool.true_and, List.all_map]
      congr 2
      apply List.all_congr rfl
      intro j
      simp only [Function.comp]
      rw [show i + 1 + (j : Int) = i + ((j + 1 : Nat) : Int) by omega]
theorem rholds_is (k : Nat) (l : List S66) (hk : 9223372036854775900 ≤ k) : tocsinref1_Holds.f k l = some (holdsS (l.map qR)) := by
  have hb := frame_bd (l.map qR)
  unfold tocsinref1_Holds.f holdsS
  rw [rframe_is k l hk]
  simp only [Option.bind_some]
  by_cases h : (frameS (l.map qR)).2 = 0
  · rw [if_pos h, if_pos h, rholds_loop l _ (by omega) (frameS (l.map qR)).1.toNat k 1 (by omega) (by omega) (by omega)]
    congr 2
    apply List.all_congr rfl
    intro j
    rw [Int.add_comm 1 (j : Int)]
  · rw [if_neg h, if_neg h]


end Go.Proofs.Ytkjboaepeecinaa.Pure
