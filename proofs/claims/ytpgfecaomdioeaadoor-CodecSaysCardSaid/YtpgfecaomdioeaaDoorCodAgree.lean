/- codec.GetJobs and the reference's answer alike, and what PutJobs wrote is read again: in plain lists. -/
-- slim
import Derived.Test.YtpgfecaomdioeaaDoorPCtx2
import Derived.Test.YtpgfecaomdioeaaDoorCodB
import Derived.Test.YtpgfecaomdioeaaDoorCodPutJ
import Derived.Test.YtpgfecaomdioeaaDoorCodC
namespace Go.Proofs.YtpgfecaomdioeaaDoor.PCt
open Go.RowKit Go.Proofs.YtpgfecaomdioeaaDoor.PCt Go.Proofs.YtpgfecaomdioeaaDoorW.PrintWords Go.Proofs.YtpgfecaomdioeaaDoorW.PrintLast Go.Proofs.YtpgfecaomdioeaaDoorW.PrintMore 
set_option linter.unusedVariables false
set_option linter.unusedSimpArgs false

def own1 (x : S48) : S44 := ⟨x.f0, x.f1, x.f2, x.f3, x.f4, x.f5, x.f6, x.f7⟩
theorem num_same : ∀ (l : List Int) (i : Nat) (n : Int), (∀ c ∈ l, 0 ≤ c ∧ c < 256) → 0 ≤ n → n < 128 ^ i → i ≤ 4 →
  (∀ x k, grpL l i n = some (x, k) → numL l i n = some (x, k)) ∧ (grpL l i n = none → ∀ x k, numL l i n = some (x, k) → 268435456 ≤ x)
 | [], _, _, _, _, _, _ => ⟨(fun _ _ h => by cases h), (fun _ _ _ h => by cases h)⟩
 | c :: t, i, n, hb, h0, h1, hi => by
  have hc := hb c (List.mem_cons_self ..)
  have hp : (0 : Int) < 128 ^ i := Int.pow_pos (by decide)
  have hm : 0 ≤ (c % 128) * 128 ^ i := Int.mul_nonneg (by omega) (by omega)
  have hm2 : (c % 128) * 128 ^ i ≤ 127 * 128 ^ i := Int.mul_le_mul_of_nonneg_right (by omega) (by omega)
  have hs : (128 : Int) ^ (i + 1) = 128 ^ i * 128 := Int.pow_succ ..
  simp only [grpL, numL]
  rw [if_neg (show ¬ 5 ≤ i by omega)]
  by_cases h4 : 4 ≤ i
  ·rw [if_pos h4]
   obtain rfl : i = 4 := by omega
   refine ⟨(fun _ _ h => by cases h), fun _ x k h => ?_⟩
   by_cases h128 : 128 ≤ c
   ·rw [if_pos h128] at h
    cases t with
    | nil => cases h
    | cons d t => simp only [numL] at h; rw [if_pos (show 5 ≤ 4 + 1 by omega)] at h; cases h
   ·rw [if_neg h128] at h
    split at h
    ·cases h
    ·rename_i hz
     injection h with h
     injection h with h _
     have hc0 : c ≠ 0 := fun e => hz (.inl ⟨by omega, e⟩)
     rw [show ((128 : Int) ^ 4) = 268435456 by decide] at h
     omega
  ·rw [if_neg h4]
   by_cases h128 : 128 ≤ c
   ·rw [if_pos h128, if_pos h128]
    exact num_same t (i + 1) _ (fun y hy => hb y (List.mem_cons_of_mem _ hy)) (by omega) (by omega) (by omega)
   ·rw [if_neg h128, if_neg h128]
    have hle : (128 : Int) ^ (i + 1) ≤ 268435456 := by
     obtain rfl | rfl | rfl | rfl : i = 0 ∨ i = 1 ∨ i = 2 ∨ i = 3 := by omega
     all_goals decide
    by_cases hz : 0 < i ∧ c = 0
    ·rw [if_pos hz, if_pos (.inl hz)]
     exact ⟨(fun _ _ h => by cases h), (fun _ _ _ h => by cases h)⟩
    ·rw [if_neg hz, if_neg (fun h => by (rcases h with h | h); (exact hz h); omega)]
     exact ⟨(fun _ _ h => h), (fun h => by cases h)⟩
theorem step_same (l : List Int) (hb : ∀ c ∈ l, 0 ≤ c ∧ c < 256) :
  (mB l false = false ∧ mV l false = nV l ∧ mR l false = nR l ∧ nB l false = false) ∨ (mB l false = true ∧ (nB l false = true ∨ 268435456 ≤ nV l)) := by
 have h := num_same l 0 0 hb (by decide) (by decide) (by decide)
 unfold mB mV mR nV nR nB
 cases hg : grpL l 0 0 with
 | some p =>
  rw [h.1 p.1 p.2 hg]
  exact .inl ⟨rfl, rfl, rfl, rfl⟩
 | none =>
  refine .inr ⟨rfl, ?_⟩
  cases hn : numL l 0 0 with
  | none => exact .inl rfl
  | some p => exact .inr (h.2 hg p.1 p.2 hn)
theorem nB_bad (l : List Int) : nB l true = true := by unfold nB; cases numL l 0 0 <;> rfl
theorem mB_bad (l : List Int) : mB l true = true := rfl
theorem txB_bad (l : List Int) (m : Nat) : txB l true m = true := by unfold txB; split <;> rfl
theorem trB_bad (l : List Int) : trB true l = true := by cases l <;> rfl
theorem name_same (l : List Int) (hb : ∀ c ∈ l, 0 ≤ c ∧ c < 256) (hl : l.length ≤ 1000000) :
  (xT l false = false ∧ nameF l false = own1 (nameJ l) ∧ xR l false = txR (nR l) (nV l).toNat ∧ txB (nR l) (nB l false) (nV l).toNat = false) ∨ (xT l false = true ∧ txB (nR l) (nB l false) (nV l).toNat = true) := by
 rcases step_same l hb with ⟨h1, h2, h3, h4⟩ | ⟨h1, h2⟩
 ·by_cases h : (nR l).length < (nV l).toNat
  ·refine .inr ⟨by unfold xT; rw [h1, h2, h3, decide_eq_true h]; rfl, by unfold txB; rw [if_pos h]⟩
  ·have hx : xT l false = false := by unfold xT; rw [h1, h2, h3, decide_eq_false h]; rfl
   refine .inl ⟨hx, ?_, ?_, by unfold txB; rw [if_neg h]; exact h4⟩
   ·unfold nameF nameJ own1 xS txS
    rw [hx, if_neg (by decide), if_neg h, h2, h3]
    rfl
   ·unfold xR txR
    rw [hx, if_neg (by decide), if_neg h, h2, h3]
 ·refine .inr ⟨by unfold xT; rw [h1]; rfl, ?_⟩
  rcases h2 with h2 | h2
  ·rw [h2]; exact txB_bad _ _
  ·have := nR_le l
   unfold txB
   rw [if_pos (by omega)]
def fieldJ (x : S48) : Nat → Int
 | 0 => x.f1 | 1 => x.f2 | 2 => x.f3 | 3 => x.f4 | 4 => x.f5 | _ => x.f6
theorem field_at (x : S48) (v : Int) (i : Nat) (hi : i < 6) : fieldJ (setF x i v) i = v := by
 obtain rfl | rfl | rfl | rfl | rfl | rfl : i = 0 ∨ i = 1 ∨ i = 2 ∨ i = 3 ∨ i = 4 ∨ i = 5 := by omega
 all_goals rfl
theorem field_ne (x : S48) (v : Int) (i j : Nat) (hi : i < 6) (hj : j < i) : fieldJ (setF x i v) j = fieldJ x j := by
 obtain rfl | rfl | rfl | rfl | rfl | rfl : i = 0 ∨ i = 1 ∨ i = 2 ∨ i = 3 ∨ i = 4 ∨ i = 5 := by omega
 all_goals obtain rfl | rfl | rfl | rfl | rfl : j = 0 ∨ j = 1 ∨ j = 2 ∨ j = 3 ∨ j = 4 := by omega
 all_goals first | rfl | omega
theorem own_set (x : S48) (v : Int) (i : Nat) (hi : i < 6) : own1 (setF x i v) = setG (own1 x) i v := by
 obtain rfl | rfl | rfl | rfl | rfl | rfl : i = 0 ∨ i = 1 ∨ i = 2 ∨ i = 3 ∨ i = 4 ∨ i = 5 := by omega
 all_goals rfl
theorem six_keep : ∀ (f i : Nat) (x : S48) (l : List Int) (b : Bool) (j : Nat), j < i → i + f ≤ 6 → fieldJ (sixJ f i x l b).1 j = fieldJ x j
 | 0, _, _, _, _, _, _, _ => rfl
 | f + 1, i, x, l, b, j, hj, hf => by
  show fieldJ (sixJ f (i + 1) (setF x i (nV l)) (nR l) (nB l b)).1 j = _
  rw [six_keep f (i + 1) _ _ _ j (by omega) (by omega), field_ne _ _ _ _ (by omega) hj]
theorem six_bad : ∀ (f i : Nat) (x : S48) (l : List Int), (sixJ f i x l true).2.2 = true
 | 0, _, _, _ => rfl
 | f + 1, i, x, l => by
  show (sixJ f (i + 1) _ _ (nB l true)).2.2 = true
  rw [nB_bad]
  exact six_bad f _ _ _
theorem sixF_bad : ∀ (f i : Nat) (x : S44) (l : List Int), (sixF f i x l true).2.2 = true
 | 0, _, _, _ => rfl
 | f + 1, i, x, l => sixF_bad f _ _ _
theorem six_same : ∀ (f i : Nat) (x : S48) (l : List Int), i + f ≤ 6 → (∀ c ∈ l, 0 ≤ c ∧ c < 256) →
  ((sixF f i (own1 x) l false).2.2 = false ∧ (sixF f i (own1 x) l false).1 = own1 (sixJ f i x l false).1 ∧ (sixF f i (own1 x) l false).2.1 = (sixJ f i x l false).2.1 ∧ (sixJ f i x l false).2.2 = false) ∨
  ((sixF f i (own1 x) l false).2.2 = true ∧ ((sixJ f i x l false).2.2 = true ∨ ∃ j, j < 6 ∧ 268435456 ≤ fieldJ (sixJ f i x l false).1 j))
 | 0, _, _, _, _, _ => .inl ⟨rfl, rfl, rfl, rfl⟩
 | f + 1, i, x, l, hf, hb => by
  rw [show sixF (f + 1) i (own1 x) l false = sixF f (i + 1) (setG (own1 x) i (mV l false)) (mR l false) (mB l false) from rfl, show sixJ (f + 1) i x l false = sixJ f (i + 1) (setF x i (nV l)) (nR l) (nB l false) from rfl]
  rcases step_same l hb with ⟨h1, h2, h3, h4⟩ | ⟨h1, h2⟩
  ·rw [h1, h2, h3, h4, ← own_set x (nV l) i (by omega)]
   exact six_same f (i + 1) _ _ (by omega) (fun c hc => hb c (nR_mem l c hc))
  ·rw [h1]
   refine .inr ⟨sixF_bad _ _ _ _, ?_⟩
   rcases h2 with h2 | h2
   ·rw [h2]; exact .inl (six_bad _ _ _ _)
   ·exact .inr ⟨i, by omega, by rw [six_keep f (i + 1) _ _ _ i (by omega) (by omega), field_at _ _ _ (by omega)]; exact h2⟩
theorem good_field {x : S48} {j : Nat} (hj : j < 6) (h : 268435456 ≤ fieldJ x j) (b : Bool) : goodJ { x with f7 := b } = false := by
 cases hg : goodJ { x with f7 := b } with
 | false => rfl
 | true =>
  have := goodJ_bd hg
  obtain rfl | rfl | rfl | rfl | rfl | rfl : j = 0 ∨ j = 1 ∨ j = 2 ∨ j = 3 ∨ j = 4 ∨ j = 5 := by omega
  all_goals (simp only [fieldJ] at h; simp only at this; omega)
theorem grp_big : ∀ (t : List Int) (i : Nat) (n x : Int) (k : Nat), (∀ c ∈ t, 0 ≤ c ∧ c < 256) → 0 < i → 0 ≤ n → grpL t i n = some (x, k) → 128 ≤ x
 | [], _, _, _, _, _, _, _, h => by cases h
 | c :: t, i, n, x, k, hb, hi, hn, h => by
  have hc := hb c (List.mem_cons_self ..)
  have hp : (128 : Int) ≤ 128 ^ i := by
   obtain ⟨j, rfl⟩ : ∃ j, i = j + 1 := ⟨i - 1, by omega⟩
   have : (0 : Int) < 128 ^ j := Int.pow_pos (by decide)
   rw [Int.pow_succ]; omega
  have hm : 0 ≤ (c % 128) * 128 ^ i := Int.mul_nonneg (by omega) (by omega)
  simp only [grpL] at h
  split at h
  ·cases h
  split at h
  ·exact grp_big t (i + 1) _ x k (fun y hy => hb y (List.mem_cons_of_mem _ hy)) (by omega) (by omega) h
  rename_i h128
  split at h
  ·cases h
  ·rename_i hz
   injection h with h
   injection h with h _
   have hc0 : c ≠ 0 := fun e => hz ⟨hi, e⟩
   have : 1 * 128 ^ i ≤ (c % 128) * 128 ^ i := Int.mul_le_mul_of_nonneg_right (by omega) (by omega)
   omega
theorem hard_same (l : List Int) (hb : ∀ c ∈ l, 0 ≤ c ∧ c < 256) :
  ((mB l false || decide (mV l false > 1)) = false ∧ (mV l false == 1) = trV l ∧ mR l false = l.tail ∧ trB false l = false) ∨ ((mB l false || decide (mV l false > 1)) = true ∧ trB false l = true) := by
 cases l with
 | nil => exact .inr ⟨rfl, rfl⟩
 | cons c t =>
  have hc := hb c (List.mem_cons_self ..)
  by_cases h128 : 128 ≤ c
  ·refine .inr ⟨?_, ?_⟩
   ·have hgE : grpL (c :: t) 0 0 = grpL t 1 (0 + c % 128 * 128 ^ 0) := by
     simp only [grpL]
     rw [if_neg (by decide), if_pos h128]
    unfold mB mV
    rw [if_neg (by decide), hgE]
    cases hg : grpL t 1 (0 + c % 128 * 128 ^ 0) with
    | none => rfl
    | some p =>
     have := grp_big t 1 _ p.1 p.2 (fun y hy => hb y (List.mem_cons_of_mem _ hy)) (by decide) (by omega) hg
     show (_ || decide (p.1 > 1)) = true
     rw [decide_eq_true (by omega : p.1 > 1), Bool.or_true]
   ·simp only [trB]
    rw [decide_eq_true (show c ≠ 0 by omega), decide_eq_true (show c ≠ 1 by omega)]; rfl
  ·have hg : grpL (c :: t) 0 0 = some (c, 1) := by
    simp only [grpL]
    rw [if_neg (by decide), if_neg h128, if_neg (fun h => absurd h.1 (by decide))]
    congr 2
    omega
   have e1 : mV (c :: t) false = c := by unfold mV; rw [if_neg (by decide), hg]; rfl
   have e2 : mB (c :: t) false = false := by unfold mB; rw [hg]; rfl
   have e3 : mR (c :: t) false = t := by unfold mR; rw [if_neg (by decide), hg]; rfl
   rw [e1, e2, e3]
   by_cases h : c > 1
   ·refine .inr ⟨by rw [decide_eq_true h]; rfl, ?_⟩
    simp only [trB]
    rw [decide_eq_true (show c ≠ 0 by omega), decide_eq_true (show c ≠ 1 by omega)]; rfl
   ·refine .inl ⟨by rw [decide_eq_false h]; rfl, ?_, rfl, ?_⟩
    ·simp only [trV]
     rw [Bool.eq_iff_iff, beq_iff_eq, decide_eq_true_iff]
    ·simp only [trB]
     obtain rfl | rfl : c = 0 ∨ c = 1 := by omega
     ·rfl
     ·rfl
def endJb (q : S48 × List Int × Bool) : S48 × List Int × Bool := ({ q.1 with f7 := trV q.2.1 }, q.2.1.tail, trB q.2.2 q.2.1)
theorem rdJob_is (l : List Int) (b : Bool) : rdJob l b = endJb (sixJ 6 0 (nameJ l) (txR (nR l) (nV l).toNat) (txB (nR l) (nB l b) (nV l).toNat)) := rfl
theorem end_same (q : S48 × List Int × Bool) (r : S44 × List Int × Bool) (h1 : r.2.2 = false) (h2 : r.1 = own1 q.1) (h3 : r.2.1 = q.2.1) (h4 : q.2.2 = false) (hb : ∀ c ∈ q.2.1, 0 ≤ c ∧ c < 256) :
  ((endF r).2.2 = false ∧ (endF r).1 = own1 (endJb q).1 ∧ (endF r).2.1 = (endJb q).2.1 ∧ (endJb q).2.2 = false) ∨ ((endF r).2.2 = true ∧ (endJb q).2.2 = true) := by
 obtain ⟨x, l, b⟩ := q
 obtain ⟨y, l2, b2⟩ := r
 simp only at h1 h2 h3 h4 hb
 subst h1 h2 h3 h4
 unfold endF endJb
 rcases hard_same l2 hb with ⟨k1, k2, k3, k4⟩ | ⟨k1, k2⟩
 ·refine .inl ⟨k1, ?_, k3, k4⟩
  show ({ own1 x with f7 := (mV l2 false == 1) } : S44) = own1 { x with f7 := trV l2 }
  rw [k2]
  rfl
 ·exact .inr ⟨k1, k2⟩
theorem endB_bad (q : S48 × List Int × Bool) (r : S44 × List Int × Bool) (h1 : r.2.2 = true) (h2 : q.2.2 = true ∨ ∃ j, j < 6 ∧ 268435456 ≤ fieldJ q.1 j) :
  (endF r).2.2 = true ∧ ((endJb q).2.2 = true ∨ goodJ (endJb q).1 = false) := by
 obtain ⟨x, l, b⟩ := q
 obtain ⟨y, l2, b2⟩ := r
 simp only at h1 h2
 subst h1
 refine ⟨rfl, ?_⟩
 rcases h2 with h2 | ⟨j, hj, h2⟩
 ·subst h2
  exact .inl (trB_bad _)
 ·exact .inr (good_field hj h2 _)
theorem rd_same (l : List Int) (hb : ∀ c ∈ l, 0 ≤ c ∧ c < 256) (hl : l.length ≤ 1000000) :
  ((rdF l false).2.2 = false ∧ (rdF l false).1 = own1 (rdJob l false).1 ∧ (rdF l false).2.1 = (rdJob l false).2.1 ∧ (rdJob l false).2.2 = false) ∨
  ((rdF l false).2.2 = true ∧ ((rdJob l false).2.2 = true ∨ goodJ (rdJob l false).1 = false)) := by
 unfold rdF
 rw [rdJob_is]
 rcases name_same l hb hl with ⟨h1, h2, h3, h4⟩ | ⟨h1, h2⟩
 ·rw [h1, h2, h4, h3]
  have hb2 : ∀ c ∈ txR (nR l) (nV l).toNat, 0 ≤ c ∧ c < 256 := fun c hc => hb c (nR_mem l c (txR_mem _ _ c hc))
  rcases six_same 6 0 (nameJ l) (txR (nR l) (nV l).toNat) (by decide) hb2 with ⟨g1, g2, g3, g4⟩ | ⟨g1, g2⟩
  ·have hb3 := (sixF_le 6 0 (own1 (nameJ l)) (txR (nR l) (nV l).toNat) false).2
   rw [g3] at hb3
   rcases end_same _ _ g1 g2 g3 g4 (fun c hc => hb2 c (hb3 c hc)) with h | h
   ·exact .inl h
   ·exact .inr ⟨h.1, .inl h.2⟩
  ·exact .inr (endB_bad _ _ g1 g2)
 ·rw [h1, h2]
  exact .inr (endB_bad _ _ (sixF_bad 6 0 _ _) (.inl (six_bad 6 0 _ _)))
theorem rdJob_bad (l : List Int) : (rdJob l true).2.2 = true := by
 rw [rdJob_is, nB_bad, txB_bad]
 show trB (sixJ 6 0 _ _ true).2.2 _ = true
 rw [six_bad]
 exact trB_bad _
theorem jobsL_bad : ∀ (n : Nat) (l : List Int) (t : List S48), (jobsL n l true t).2.2 = true
 | 0, _, _ => rfl
 | n + 1, l, t => by
  show (jobsL n _ (rdJob l true).2.2 _).2.2 = true
  rw [rdJob_bad]
  exact jobsL_bad n _ _
theorem jobsL_mem : ∀ (n : Nat) (l : List Int) (b : Bool) (t : List S48) (x : S48), x ∈ t → x ∈ (jobsL n l b t).1
 | 0, _, _, _, _, h => h
 | n + 1, l, b, t, x, h => jobsL_mem n _ _ _ x (List.mem_append_left _ h)
theorem jobsF_bad : ∀ (n : Nat) (l : List Int) (t : List S44), jobsF n l true t = (t, l, true)
 | 0, _, _ => rfl
 | n + 1, l, t => if_pos rfl
theorem jobsF_len : ∀ (n : Nat) (l : List Int) (b : Bool) (t : List S44), (jobsF n l b t).2.2 = true ∨ (jobsF n l b t).1.length = t.length + n
 | 0, _, _, _ => .inr rfl
 | n + 1, l, b, t => by
  simp only [jobsF]
  split
  ·exact .inl ‹_›
  ·rcases jobsF_len n (rdF l b).2.1 (rdF l b).2.2 (t ++ [(rdF l b).1]) with h | h
   ·exact .inl h
   ·refine .inr ?_
    rw [h, List.length_append]
    simp only [List.length_cons, List.length_nil]
    omega
theorem rdF_mem (l : List Int) (c : Int) (h : c ∈ (rdF l false).2.1) : c ∈ l := by
 have h2 := (sixF_le 6 0 (nameF l false) (xR l false) (xT l false)).2
 exact xR_mem l false c (h2 c (mR_mem _ _ c h))
theorem rdF_le (l : List Int) : (rdF l false).2.1.length ≤ l.length :=
 Nat.le_trans (mR_le _ _) (Nat.le_trans (sixF_le 6 0 (nameF l false) (xR l false) (xT l false)).1 (xR_le l false))
theorem jobs_same : ∀ (n : Nat) (l : List Int) (t : List S48), (∀ c ∈ l, 0 ≤ c ∧ c < 256) → l.length ≤ 1000000 →
  ((jobsF n l false (t.map own1)).2.2 = false ∧ (jobsF n l false (t.map own1)).1 = (jobsL n l false t).1.map own1 ∧ (jobsF n l false (t.map own1)).2.1 = (jobsL n l false t).2.1 ∧ (jobsL n l false t).2.2 = false) ∨
  ((jobsF n l false (t.map own1)).2.2 = true ∧ ((jobsL n l false t).2.2 = true ∨ (jobsL n l false t).1.all goodJ = false))
 | 0, _, _, _, _ => .inl ⟨rfl, rfl, rfl, rfl⟩
 | n + 1, l, t, hb, hl => by
  rw [show jobsF (n + 1) l false (t.map own1) = jobsF n (rdF l false).2.1 (rdF l false).2.2 (t.map own1 ++ [(rdF l false).1]) from if_neg (by decide), show jobsL (n + 1) l false t = jobsL n (rdJob l false).2.1 (rdJob l false).2.2 (t ++ [(rdJob l false).1]) from rfl]
  have hm := rdF_mem l
  have hle := rdF_le l
  rcases rd_same l hb hl with ⟨h1, h2, h3, h4⟩ | ⟨h1, h2⟩
  ·rw [h3] at hm hle
   rw [h1, h2, h3, h4, show t.map own1 ++ [own1 (rdJob l false).1] = (t ++ [(rdJob l false).1]).map own1 by simp]
   exact jobs_same n _ _ (fun c hc => hb c (hm c hc)) (by omega)
  ·rw [h1, jobsF_bad]
   refine .inr ⟨rfl, ?_⟩
   rcases h2 with h2 | h2
   ·rw [h2]; exact .inl (jobsL_bad _ _ _)
   ·refine .inr ?_
    rw [List.all_eq_false]
    exact ⟨_, jobsL_mem n _ _ _ (rdJob l false).1 (List.mem_append_right _ (List.mem_singleton.2 rfl)), by rw [h2]; decide⟩
theorem goodR_own (x : S48) : goodR (own1 x) = goodJ x := rfl
theorem all_own : ∀ t : List S48, (t.map own1).all goodR = t.all goodJ
 | [] => rfl
 | x :: t => by rw [List.map_cons, List.all_cons, List.all_cons, all_own t, goodR_own]
theorem endJ_bad {q : List S48 × List Int × Bool} (h : q.2.2 = true ∨ q.1.all goodJ = false) : endJ q = ([], 3) := by
 unfold endJ
 split
 ·rfl
 split
 ·rfl
 split
 ·rename_i h1 _ h3
  rcases h with h | h
  ·exact absurd h h1
  ·rw [h] at h3; cases h3
 ·rfl
/-- Any bytes: both read them alike, or both refuse. -/
theorem read_same (l : List Int) (hb : ∀ c ∈ l, 0 ≤ c ∧ c < 256) (hl : l.length ≤ 1000000) :
  ((readF l).2 = true ∧ (readJ l (wbT l)).2 = 0 ∧ (readF l).1 = (readJ l (wbT l)).1.map own1) ∨ (readF l = ([], false) ∧ readJ l (wbT l) = ([], 3)) := by
 have no : ∀ rest, sayF (afterF rest true) = ([], false) := fun rest => by
  unfold afterF
  rw [mB_bad, jobsF_bad]
  exact if_pos rfl
 unfold readF readJ openL
 by_cases h4 : l.length < 4
 ·rw [if_pos h4, if_pos h4]
  exact .inr ⟨no _, rfl⟩
 ·rw [if_neg h4, if_neg h4]
  cases hw : wbT l with
  | false =>
   rw [if_pos rfl]
   exact .inr ⟨no _, rfl⟩
  | true =>
   rw [if_neg (by decide), show l.take (l.length - 4) = restJ l from rfl]
   have hb2 : ∀ c ∈ restJ l, 0 ≤ c ∧ c < 256 := fun c hc => hb c (List.mem_of_mem_take hc)
   have hl2 : (restJ l).length ≤ 1000000 := by unfold restJ; rw [List.length_take]; omega
   unfold afterJ
   generalize restJ l = rest at hb2 hl2
   have eF : afterF (rest, true).1 (!(rest, true).2) = jobsF (mV rest false).toNat (mR rest false) (mB rest false) [] := rfl
   rw [eF]
   rcases step_same rest hb2 with ⟨h1, h2, h3, h5⟩ | ⟨h1, h2⟩
   ·rw [h1, h2, h3, h5]
    have hb3 : ∀ c ∈ nR rest, 0 ≤ c ∧ c < 256 := fun c hc => hb2 c (nR_mem rest c hc)
    have hl3 : (nR rest).length ≤ 1000000 := Nat.le_trans (nR_le rest) hl2
    have hJ := jobs_same (nV rest).toNat (nR rest) [] hb3 hl3
    have hN := jobsF_len (nV rest).toNat (nR rest) false []
    rw [List.map_nil] at hJ
    by_cases h200 : nV rest > 200
    ·rw [if_pos h200]
     refine .inr ⟨?_, rfl⟩
     unfold sayF
     split
     ·rfl
     split
     ·rfl
     split
     ·rename_i g1 _ g3
      rcases hN with h | h
      ·exact absurd h g1
      ·rw [Bool.and_eq_true, decide_eq_true_iff, h] at g3
       have := g3.2
       simp only [List.length_nil] at this
       omega
     ·rfl
    ·rw [if_neg h200]
     rcases hJ with ⟨k1, k2, k3, k4⟩ | ⟨k1, k2⟩
     ·rcases hN with hN | hN
      ·rw [k1] at hN; cases hN
      unfold sayF endJ
      rw [if_neg (show ¬ (jobsF (nV rest).toNat (nR rest) false []).2.2 = true by rw [k1]; decide), if_neg (show ¬ (jobsL (nV rest).toNat (nR rest) false []).2.2 = true by rw [k4]; decide), k3]
      by_cases h0 : 0 < (jobsL (nV rest).toNat (nR rest) false []).2.1.length
      ·rw [if_pos h0, if_pos h0]
       exact .inr ⟨rfl, rfl⟩
      ·rw [if_neg h0, if_neg h0, k2, all_own]
       rw [k2] at hN
       rw [decide_eq_true (show (List.map own1 (jobsL (nV rest).toNat (nR rest) false []).1).length ≤ 200 by rw [hN]; simp only [List.length_nil]; omega), Bool.and_true]
       cases (jobsL (nV rest).toNat (nR rest) false []).1.all goodJ with
       | true => exact .inl ⟨rfl, rfl, rfl⟩
       | false => exact .inr ⟨rfl, rfl⟩
     ·refine .inr ⟨?_, endJ_bad k2⟩
      unfold sayF
      exact if_pos k1
   ·rw [h1, jobsF_bad]
    refine .inr ⟨if_pos rfl, ?_⟩
    split
    ·rfl
    ·rename_i h200
     rcases h2 with h2 | h2
     ·rw [h2]; exact endJ_bad (.inl (jobsL_bad _ _ _))
     ·omega
-- what is written is read again
theorem num_enc (n : Nat) (hn : n < 268435456) (r : List Int) : numL (encN n ++ r) 0 0 = some ((n : Int), (encN n).length) := by
 by_cases h1 : n < 128
 ·rw [encN_small n h1]
  simp only [List.cons_append, List.nil_append, numL]
  rw [if_neg (by omega), if_neg (by omega), if_neg (by omega)]
  simp
  omega
 rw [encN_big n h1]
 by_cases h2 : n / 128 < 128
 ·rw [encN_small _ h2]
  simp only [List.cons_append, List.nil_append, numL]
  rw [if_neg (by omega), if_pos (by omega), if_neg (by omega), if_neg (by omega), if_neg (by omega)]
  simp
  omega
 rw [encN_big _ h2]
 by_cases h3 : n / 128 / 128 < 128
 ·rw [encN_small _ h3]
  simp only [List.cons_append, List.nil_append, numL]
  rw [if_neg (by omega), if_pos (by omega), if_neg (by omega), if_pos (by omega), if_neg (by omega), if_neg (by omega), if_neg (by omega)]
  simp
  omega
 rw [encN_big _ h3, encN_small _ (by omega)]
 simp only [List.cons_append, List.nil_append, numL]
 rw [if_neg (by omega), if_pos (by omega), if_neg (by omega), if_pos (by omega), if_neg (by omega), if_pos (by omega), if_neg (by omega), if_neg (by omega), if_neg (by omega)]
 simp
 omega
theorem nV_encI (v : Int) (h0 : 0 ≤ v) (h1 : v < 268435456) (r : List Int) : nV (encI v ++ r) = v := by
 unfold nV encI
 rw [num_enc _ (by omega)]
 show ((v.toNat : Nat) : Int) = v
 omega
theorem nR_encI (v : Int) (h0 : 0 ≤ v) (h1 : v < 268435456) (r : List Int) : nR (encI v ++ r) = r := by
 unfold nR encI
 rw [num_enc _ (by omega)]
 simp
theorem nB_encI (v : Int) (h0 : 0 ≤ v) (h1 : v < 268435456) (r : List Int) (b : Bool) : nB (encI v ++ r) b = b := by
 unfold nB encI
 rw [num_enc _ (by omega)]
theorem six_enc (f i : Nat) (y : S48) (v : Int) (h0 : 0 ≤ v) (h1 : v ≤ 1000000) (r : List Int) (b : Bool) : sixJ (f + 1) i y (encI v ++ r) b = sixJ f (i + 1) (setF y i v) r b := by
 show sixJ f (i + 1) (setF y i (nV _)) (nR _) (nB _ b) = _
 rw [nV_encI v h0 (by omega), nR_encI v h0 (by omega), nB_encI v h0 (by omega)]
theorem str_bytes (s : ByteArray) : strOfNums (bytesOf s) = s := by
 unfold strOfNums bytesOf
 rw [List.map_map, show ((fun n : Int => UInt8.ofNat n.toNat) ∘ fun b : UInt8 => (b.toNat : Int)) = id from funext fun b => by simp, List.map_id]
theorem rdJob_enc (x : S48) (hg : goodJ x = true) (hs : x.f0.size ≤ 1000) (r : List Int) : rdJob (encJ x ++ r) false = (x, r, false) := by
 have hd := goodJ_bd hg
 have e : encJ x ++ r = encI x.f0.size ++ (bytesOf x.f0 ++ (encI x.f1 ++ (encI x.f2 ++ (encI x.f3 ++ (encI x.f4 ++ (encI x.f5 ++ (encI x.f6 ++ (hardJ x :: r)))))))) := by
  unfold encJ numsJ fsJ
  simp only [encL, List.append_assoc, List.append_nil, List.cons_append, List.nil_append]
 unfold rdJob nameJ
 rw [e, nV_encI _ (by omega) (by omega), nR_encI _ (by omega) (by omega), nB_encI _ (by omega) (by omega)]
 generalize hq : (encI x.f1 ++ (encI x.f2 ++ (encI x.f3 ++ (encI x.f4 ++ (encI x.f5 ++ (encI x.f6 ++ (hardJ x :: r))))))) = q
 have hz : ¬ (bytesOf x.f0 ++ q).length < x.f0.size := by rw [List.length_append, bytesOf_length]; omega
 have hl := bytesOf_length x.f0
 have e1 : txS (bytesOf x.f0 ++ q) (x.f0.size : Int).toNat = x.f0 := by
  unfold txS
  rw [show (x.f0.size : Int).toNat = x.f0.size by omega, if_neg hz, List.take_left' hl, str_bytes]
 have e2 : txR (bytesOf x.f0 ++ q) (x.f0.size : Int).toNat = q := by
  unfold txR
  rw [show (x.f0.size : Int).toNat = x.f0.size by omega, if_neg hz, List.drop_left' hl]
 have e3 : txB (bytesOf x.f0 ++ q) false (x.f0.size : Int).toNat = false := by
  unfold txB
  rw [show (x.f0.size : Int).toNat = x.f0.size by omega, if_neg hz]
 rw [e1, e2, e3, ← hq]
 rw [six_enc _ _ _ x.f1 (by omega) (by omega), six_enc _ _ _ x.f2 (by omega) (by omega), six_enc _ _ _ x.f3 (by omega) (by omega), six_enc _ _ _ x.f4 (by omega) (by omega), six_enc _ _ _ x.f5 (by omega) (by omega), six_enc _ _ _ x.f6 (by omega) (by omega)]
 obtain ⟨s, a1, a2, a3, a4, a5, a6, h⟩ := x
 cases h <;> rfl
theorem jobs_enc : ∀ (l : List S48) (t : List S48), l.all goodJ = true → (∀ x ∈ l, x.f0.size ≤ 1000) → jobsL l.length (flatJ l) false t = (t ++ l, [], false)
 | [], t, _, _ => by rw [List.append_nil]; rfl
 | x :: l, t, hg, hs => by
  rw [List.all_cons, Bool.and_eq_true] at hg
  show jobsL l.length (rdJob (encJ x ++ flatJ l) false).2.1 (rdJob (encJ x ++ flatJ l) false).2.2 (t ++ [(rdJob (encJ x ++ flatJ l) false).1]) = _
  rw [rdJob_enc x hg.1 (hs x (List.mem_cons_self ..))]
  show jobsL l.length (flatJ l) false (t ++ [x]) = _
  rw [jobs_enc l _ hg.2 (fun y hy => hs y (List.mem_cons_of_mem _ hy)), List.append_assoc]
  rfl
theorem wb_put (b : List Int) : wbT (summedL b) = true := by
 unfold wbT
 rw [summed_len, Nat.add_sub_cancel, show (summedL b).take b.length = b from List.take_left' rfl]
 exact decide_eq_true rfl
theorem rest_put (b : List Int) : restJ (summedL b) = b := by
 unfold restJ
 rw [summed_len, Nat.add_sub_cancel]
 exact List.take_left' rfl
theorem read_putJ (l : List S48) (hg : l.all goodJ = true) (hl : l.length ≤ 200) (hs : ∀ x ∈ l, x.f0.size ≤ 1000) : readJ (putJ l) (wbT (putJ l)) = (l, 0) := by
 unfold putJ
 rw [if_pos hg, wb_put]
 unfold readJ afterJ
 rw [rest_put, summed_len, if_neg (by omega), if_neg (by decide), nV_encI _ (by omega) (by omega), nR_encI _ (by omega) (by omega), nB_encI _ (by omega) (by omega), if_neg (by omega), show ((l.length : Int)).toNat = l.length by omega, jobs_enc l [] hg hs]
 unfold endJ
 rw [if_neg (show ¬ false = true by decide), if_neg (show ¬ 0 < ([] : List Int).length by decide), List.nil_append, if_pos hg]
theorem bytesOf_B (s : ByteArray) : isB (bytesOf s) := by
 intro x hx
 unfold bytesOf at hx
 obtain ⟨b, _, rfl⟩ := List.mem_map.1 hx
 have := b.toNat_lt
 omega
theorem encI_B (v : Int) : isB (encI v) := encN_B _
theorem encL_B : ∀ l : List Int, isB (encL l)
 | [] => by intro x hx; cases hx
 | v :: l => isB_app (encI_B v) (encL_B l)
theorem encJ_B (x : S48) : isB (encJ x) := by
 refine isB_app (encI_B _) (isB_app (bytesOf_B _) (isB_app (encL_B _) ?_))
 intro y hy
 obtain rfl := List.mem_singleton.1 hy
 unfold hardJ
 split <;> omega
theorem flatJ_B : ∀ l : List S48, isB (flatJ l)
 | [] => by intro x hx; cases hx
 | x :: l => isB_app (encJ_B x) (flatJ_B l)
theorem putJ_B (l : List S48) : isB (putJ l) := by
 unfold putJ
 split
 ·exact summed_B (isB_app (encI_B _) (flatJ_B l))
 ·intro x hx; cases hx
theorem encL_len : ∀ l : List Int, (∀ v ∈ l, 0 ≤ v ∧ v ≤ 1000000) → (encL l).length ≤ 4 * l.length
 | [], _ => by simp [encL]
 | v :: l, h => by
  have h1 := h v (List.mem_cons_self ..)
  have h2 := encI_len h1.1 h1.2
  have h3 := encL_len l (fun y hy => h y (List.mem_cons_of_mem _ hy))
  simp only [encL, List.length_append, List.length_cons]
  omega
theorem flatJ_len : ∀ l : List S48, l.all goodJ = true → (∀ x ∈ l, x.f0.size ≤ 1000) → (flatJ l).length ≤ 1029 * l.length
 | [], _, _ => by simp [flatJ]
 | x :: l, hg, hs => by
  rw [List.all_cons, Bool.and_eq_true] at hg
  have h0 := hs x (List.mem_cons_self ..)
  have h1 := encI_len (v := (x.f0.size : Int)) (by omega) (by omega)
  have hd := goodJ_bd hg.1
  have h2 := encL_len (fsJ x) (by
   intro v hv
   unfold fsJ at hv
   simp only [List.mem_cons, List.not_mem_nil, or_false] at hv
   rcases hv with rfl | rfl | rfl | rfl | rfl | rfl <;> omega)
  have h3 := flatJ_len l hg.2 (fun y hy => hs y (List.mem_cons_of_mem _ hy))
  rw [show (fsJ x).length = 6 from rfl] at h2
  simp only [flatJ, encJ, numsJ, List.length_append, List.length_cons, List.length_nil, bytesOf_length]
  omega
theorem putJ_len (l : List S48) (hl : l.length ≤ 200) (hs : ∀ x ∈ l, x.f0.size ≤ 1000) : (putJ l).length ≤ 300000 := by
 unfold putJ
 split
 ·rename_i hg
  have h1 := flatJ_len l hg hs
  have h2 := encI_len (v := (l.length : Int)) (by omega) (by omega)
  rw [summed_len, List.length_append]
  omega
 ·exact Nat.zero_le _

end Go.Proofs.YtpgfecaomdioeaaDoor.PCt
