/- Where the demand of any span goes into it each red job is met (the earliest end first), whatever blue ones run beside them. -/
import Derived.Test.YtkjboaepeecinaaPSkx0
import Derived.Test.YtkjboaepeecinaaSkPure
namespace Go.Proofs.Ytkjboaepeecinaa.PSk
open Go.RowKit Go.Proofs.Ytkjboaepeecinaa.PSk Go.Proofs.YtkjboaepeecinaaW.PrintWords Go.Proofs.YtkjboaepeecinaaW.PrintLast Go.Proofs.YtkjboaepeecinaaW.PrintMore 
set_option linter.unusedVariables false
set_option linter.unusedSimpArgs false

/-- The most red jobs among the next m, r of them at most ahead of the next blue one. -/
def capF (s r m : Int) : Int := if s = 0 then m else m - (m + (s - 1 - r)) / s
/-- How many red ones at most come ahead of the next blue one, behind the job that runs. -/
def restR (blue : Bool) (x : St) : Int := if blue = true then (if x.red = true then x.reds else x.s - 1) else x.s - 1 - (x.n + 1) % x.s
def workW (blue : Bool) (d : Int) (x : St) : Int :=
  if x.e ≤ d then (if x.red = true then x.left else 0) + x.need * capF x.s (restR blue x) ((d - x.e) / x.p) else 0
def askD (L : Int) (x : St) : Int := x.need * capF x.s (x.s - 1) (L / x.p)
def sumL (f : St → Int) (S : List St) : Int := (S.map f).sum
/-- A task, as it may be at tick k: its job ends at k or later, at a multiple of its period. -/
def okS (blue : Bool) (k : Int) (x : St) : Prop :=
  1 ≤ x.p ∧ 1 ≤ x.need ∧ (x.s = 0 ∨ 2 ≤ x.s) ∧ -1 ≤ x.n ∧ x.e = (x.n + 1) * x.p ∧ k ≤ x.e ∧ x.e < k + x.p ∧ 0 ≤ x.left ∧ x.left ≤ x.need ∧
  (x.s = 0 → x.n = -1 ∨ x.red = true) ∧ (x.n = -1 → x.red = false ∧ x.left = 0) ∧
  (x.s ≠ 0 → blue = true → 0 ≤ x.reds ∧ x.reds ≤ x.s - 1 ∧ (x.n = -1 → x.reds = x.s - 1) ∧ (x.n ≠ -1 → x.red = false → x.reds = 0)) ∧
  (x.s ≠ 0 → blue = false → x.n ≠ -1 → x.red = decide ((x.n + 1) % x.s ≠ 0))
theorem capF_nonneg {s r m : Int} (hs : s = 0 ∨ 2 ≤ s) (h0 : s = 0 ∨ 0 ≤ r) (hm : 0 ≤ m) : 0 ≤ capF s r m := by
  unfold capF
  split
  · exact hm
  · have h1 : (m + (s - 1 - r)) / s ≤ m := by
      apply Int.le_of_lt_add_one
      apply Int.ediv_lt_of_lt_mul (by omega)
      have : m * 2 ≤ m * s := Int.mul_le_mul_of_nonneg_left (by omega) hm
      rw [Int.add_mul]
      omega
    omega
theorem capF_zero {s r : Int} (hs : s = 0 ∨ 2 ≤ s) (h1 : s = 0 ∨ r ≤ s - 1) (h0 : s = 0 ∨ 0 ≤ r) : capF s r 0 = 0 := by
  unfold capF
  split
  · rfl
  · rw [Int.ediv_eq_zero_of_lt (by omega) (by omega)]
    rfl
theorem capF_mono {s r r' m m' : Int} (hs : s = 0 ∨ 2 ≤ s) (hr : s = 0 ∨ r ≤ r') (hm : m ≤ m') : capF s r m ≤ capF s r' m' := by
  unfold capF
  split
  · exact hm
  · rename_i h
    have h1 : (m' + (s - 1 - r')) / s ≤ (m + (s - 1 - r) + (m' - m)) / s := Int.ediv_le_ediv (by omega) (by omega)
    have h2 : (m + (s - 1 - r) + (m' - m)) / s ≤ (m + (s - 1 - r)) / s + (m' - m) := by
      have : (m + (s - 1 - r) + (m' - m)) ≤ (m + (s - 1 - r)) + (m' - m) * s := by
        have : (m' - m) * 1 ≤ (m' - m) * s := Int.mul_le_mul_of_nonneg_left (by omega) (by omega)
        omega
      calc _ ≤ ((m + (s - 1 - r)) + (m' - m) * s) / s := Int.ediv_le_ediv (by omega) this
        _ = _ := Int.add_mul_ediv_right _ _ (by omega)
    omega
/-- A red job: one less is left. -/
theorem capF_red {s r m : Int} (hs : s ≠ 0) : 1 + capF s (r - 1) (m - 1) = capF s r m := by
  unfold capF
  rw [if_neg hs, if_neg hs, show m - 1 + (s - 1 - (r - 1)) = m + (s - 1 - r) by omega]
  omega
/-- A blue job: all are left again. -/
theorem capF_blue {s m : Int} (hs : s ≠ 0) : capF s (s - 1) (m - 1) = capF s 0 m := by
  unfold capF
  rw [if_neg hs, if_neg hs, show m + (s - 1 - 0) = (m - 1 + (s - 1 - (s - 1))) + 1 * s by omega, Int.add_mul_ediv_right _ _ hs]
  omega
theorem restR_bd {blue : Bool} {k : Int} {x : St} (h : okS blue k x) : x.s = 0 ∨ (0 ≤ restR blue x ∧ restR blue x ≤ x.s - 1) := by
  obtain ⟨_, _, hs, _, _, _, _, _, _, _, _, hb, _⟩ := h
  rcases hs with hs | hs
  · exact .inl hs
  · right
    unfold restR
    cases blue with
    | true =>
      have := hb (by omega) rfl
      simp only [if_true]
      split <;> omega
    | false =>
      have h1 := Int.emod_nonneg (x.n + 1) (show x.s ≠ 0 by omega)
      have h2 := Int.emod_lt_of_pos (x.n + 1) (show 0 < x.s by omega)
      simp only [Bool.false_eq_true, if_false]
      omega
theorem workW_nonneg {blue : Bool} {k d : Int} {x : St} (h : okS blue k x) : 0 ≤ workW blue d x := by
  have hr := restR_bd h
  obtain ⟨h1, h2, hs, _, _, _, _, hl, _⟩ := h
  unfold workW
  split
  · have := capF_nonneg (m := (d - x.e) / x.p) hs (hr.imp_right And.left) (Int.ediv_nonneg (by omega) (by omega))
    have := Int.mul_nonneg (show 0 ≤ x.need by omega) this
    split <;> omega
  · omega
/-- What is asked at most of a task whose job ends behind k, beside that job. -/
theorem work_ask {blue : Bool} {k k' d : Int} {x : St} (h : okS blue k' x) (hk : k + 1 ≤ x.e) (hl : x.e ≤ d → x.red = true → x.left = 0) (hd : k + 1 ≤ d) : workW blue d x ≤ askD (d - (k + 1)) x := by
  have hr := restR_bd h
  obtain ⟨h1, h2, hs, _⟩ := h
  unfold workW askD
  split
  · have h3 : (d - x.e) / x.p ≤ (d - (k + 1)) / x.p := Int.ediv_le_ediv (by omega) (by omega)
    have h4 := Int.mul_le_mul_of_nonneg_left (capF_mono (r := restR blue x) (r' := x.s - 1) hs (hr.imp_right And.right) h3) (show 0 ≤ x.need by omega)
    split
    · rw [hl (by assumption) (by assumption)]; omega
    · omega
  · have h3 := capF_nonneg (s := x.s) (r := x.s - 1) (m := (d - (k + 1)) / x.p) hs (by omega) (Int.ediv_nonneg (by omega) (by omega))
    exact Int.mul_nonneg (by omega) h3
theorem sum_le {f g : St → Int} : ∀ {S : List St}, (∀ x ∈ S, f x ≤ g x) → sumL f S ≤ sumL g S
  | [], _ => Int.le_refl _
  | x :: l, h => by
    have h1 := h x (List.mem_cons_self ..)
    have h2 := sum_le (S := l) (fun y hy => h y (List.mem_cons_of_mem _ hy))
    unfold sumL at *
    simp only [List.map_cons, List.sum_cons]
    omega
theorem sum_nonneg {f : St → Int} {S : List St} (h : ∀ x ∈ S, 0 ≤ f x) : 0 ≤ sumL f S := by
  induction S with
  | nil => exact Int.le_refl _
  | cons x l ih =>
    have h1 := h x (List.mem_cons_self ..)
    have h2 := ih (fun y hy => h y (List.mem_cons_of_mem _ hy))
    unfold sumL at *
    simp only [List.map_cons, List.sum_cons]
    omega
theorem sum_mem {f : St → Int} {S : List St} (h : ∀ x ∈ S, 0 ≤ f x) {x : St} (hx : x ∈ S) : f x ≤ sumL f S := by
  induction S with
  | nil => cases hx
  | cons y l ih =>
    have h1 := h y (List.mem_cons_self ..)
    have hn : ∀ z ∈ l, 0 ≤ f z := fun z hz => h z (List.mem_cons_of_mem _ hz)
    have h2 := sum_nonneg hn
    have : sumL f (y :: l) = f y + sumL f l := by simp [sumL]
    rw [this]
    rcases List.mem_cons.1 hx with rfl | hx
    · omega
    · have := ih hn hx
      omega
theorem sum_map (f : St → Int) (g : St → St) (S : List St) : sumL f (S.map g) = sumL (fun x => f (g x)) S := by
  unfold sumL
  rw [List.map_map]
  rfl
theorem sum_set (f : St → Int) : ∀ (S : List St) (i : Nat) (x y : St), S[i]? = some x → sumL f (S.set i y) = sumL f S - f x + f y
  | [], _, _, _, h => by simp at h
  | z :: l, 0, x, y, h => by
    have : z = x := by simpa using h
    subst this
    simp [sumL]
    omega
  | z :: l, i + 1, x, y, h => by
    have := sum_set f l i x y (by simpa using h)
    unfold sumL at *
    simp only [List.set_cons_succ, List.map_cons, List.sum_cons]
    omega
theorem tmod_emod {a b : Int} (ha : 0 ≤ a) : a.tmod b = a % b := Int.tmod_eq_emod_of_nonneg ha
theorem mul_mod_here {k p n : Int} (hp : 1 ≤ p) (h1 : k ≤ n * p) (h2 : n * p < k + p) : k.tmod p = 0 ↔ k = n * p := by
  constructor
  · intro h
    obtain ⟨c, hc⟩ := Int.dvd_of_tmod_eq_zero h
    subst hc
    rw [Int.mul_comm n p] at *
    have h3 : c ≤ n := Int.le_of_mul_le_mul_left h1 (by omega)
    have h4 : n < c + 1 := Int.lt_of_mul_lt_mul_left (a := p) (by rw [Int.mul_add]; omega) (by omega)
    rw [show c = n by omega]
  · rintro rfl
    exact Int.mul_tmod_left _ _
theorem decSt_work {blue : Bool} {d : Int} {x : St} (h : x.red = true) (he : x.e ≤ d) : workW blue d (decSt x) = workW blue d x - 1 := by
  unfold workW decSt restR
  simp only [if_pos he, if_pos h]
  omega
theorem decSt_ok {blue : Bool} {k : Int} {x : St} (h : okS blue k x) (hl : 0 < x.left) : okS blue k (decSt x) := by
  unfold okS decSt at *
  obtain ⟨h1, h2, h3, h4, h5, h6, h7, h8, h9, h10, h11, h12, h13⟩ := h
  refine ⟨h1, h2, h3, h4, h5, h6, h7, by show 0 ≤ x.left - 1; omega, by show x.left - 1 ≤ x.need; omega, h10, fun hn => ?_, h12, h13⟩
  have := (h11 hn).2
  omega
/-- The next job's colour, and how many red ones come behind it. -/
theorem turn_rest {blue : Bool} {k : Int} {x : St} (h : okS blue k x) (hs : x.s ≠ 0) :
    ((turnS blue x k).red = true ∧ restR blue (turnS blue x k) = restR blue x - 1 ∧ 1 ≤ restR blue x) ∨ ((turnS blue x k).red = false ∧ restR blue (turnS blue x k) = x.s - 1) := by
  have hr := restR_bd h
  obtain ⟨h1, h2, h3, h4, h5, h6, h7, h8, h9, h10, h11, h12, h13⟩ := h
  cases blue with
  | false =>
    have e0 : (x.n + 1 + 1).tmod x.s = (x.n + 1 + 1) % x.s := tmod_emod (by omega)
    simp only [turnS, restR, colR, if_neg hs, Bool.false_eq_true, if_false, if_true, e0]
    have a1 := Int.emod_nonneg (x.n + 1) hs
    have a2 := Int.emod_lt_of_pos (x.n + 1) (show 0 < x.s by omega)
    by_cases hz : (x.n + 1 + 1) % x.s = 0
    · exact .inr ⟨by simp [hz], by omega⟩
    · have a3 : (x.n + 1 + 1) % x.s = (x.n + 1) % x.s + 1 := by
        by_cases hq : (x.n + 1) % x.s + 1 < x.s
        · rw [Int.add_emod, Int.emod_eq_of_lt (a := 1) (by omega) (by omega)]
          exact Int.emod_eq_of_lt (by omega) hq
        · exfalso
          apply hz
          rw [Int.add_emod, Int.emod_eq_of_lt (a := 1) (by omega) (by omega), show (x.n + 1) % x.s + 1 = x.s by omega]
          exact Int.emod_self
      exact .inl ⟨by simp [hz], by omega, by
        have := Int.emod_lt_of_pos (x.n + 1 + 1) (show 0 < x.s by omega)
        omega⟩
  | true =>
    have hb := h12 hs rfl
    simp only [turnS, restR, colR, if_neg hs, Bool.true_eq_false, if_false, if_true]
    by_cases hn : x.n = -1
    · have := h11 hn
      have w1 : wasS x = false := by simp [wasS, hn]
      simp only [w1, Bool.false_eq_true, false_and, if_false, this.1]
      split
      · exfalso; omega
      · exact .inl ⟨by simp, by simp; omega, by omega⟩
    · have w0 : decide (0 ≤ x.n) = true := decide_eq_true (by omega)
      cases hq : x.red with
      | true =>
        have w1 : wasS x = false := by simp [wasS, hq]
        simp only [w1, Bool.false_eq_true, false_and, if_false, if_true]
        split
        · exact .inr ⟨rfl, by simp⟩
        · exact .inl ⟨rfl, by simp, by omega⟩
      | false =>
        have w1 : wasS x = true := by simp [wasS, hq]; omega
        simp only [w1, true_and, Bool.false_eq_true, if_false]
        have := hb.2.2.2 hn hq
        cases hm : metS x with
        | true =>
          simp only [Bool.true_eq_false, if_false, this, if_true]
          exact .inr ⟨by simp, by simp⟩
        | false =>
          simp only [if_true]
          split
          · exfalso; omega
          · exact .inl ⟨rfl, by simp, by omega⟩
theorem turn_zero {blue : Bool} {k : Int} {x : St} (hs : x.s = 0) : (turnS blue x k).red = true := by simp [turnS, colR, hs]
theorem turn_ok {blue : Bool} {k : Int} {x : St} (h : okS blue k x) (he : k = x.e) : okS blue (k + 1) (turnS blue x k) := by
  have hr := restR_bd h
  have ht := turn_rest h
  have hz := turn_zero (blue := blue) (k := k) (x := x)
  obtain ⟨h1, h2, h3, h4, h5, h6, h7, h8, h9, h10, h11, h12, h13⟩ := h
  refine ⟨h1, h2, h3, by show -1 ≤ x.n + 1; omega, ?_, by show k + 1 ≤ k + x.p; omega, by show k + x.p < k + 1 + x.p; omega, by show 0 ≤ x.need; omega, by show x.need ≤ x.need; omega, fun hs => .inr (hz hs), fun hn => ?_, fun hs hb => ?_, fun hs hb hn => ?_⟩
  · show k + x.p = (x.n + 1 + 1) * x.p
    rw [he, h5, Int.add_mul (x.n + 1) 1, Int.one_mul]
  · exfalso
    have : x.n + 1 = -1 := hn
    omega
  · have hs' : x.s ≠ 0 := hs
    have hb12 := h12 hs' hb
    have hq : (turnS blue x k).red = true → restR blue (turnS blue x k) = (turnS blue x k).reds := fun hq => by unfold restR; rw [if_pos hb, if_pos hq]
    have hn1 : (turnS blue x k).n = x.n + 1 := rfl
    have hs1 : (turnS blue x k).s = x.s := rfl
    have hb2 : (turnS blue x k).red = false → (turnS blue x k).reds = 0 := by
      subst hb
      simp only [turnS, colR, if_neg hs', Bool.true_eq_false, if_false]
      generalize (if wasS x = true ∧ metS x = false then x.s - 1 else x.reds) = r
      split
      · intro _; rfl
      · intro h; simp at h
    rw [hs1, hn1]
    rcases ht hs' with ⟨q1, q2, q3⟩ | ⟨q1, q2⟩
    · have := hq q1
      rw [q1]
      refine ⟨by omega, by omega, fun h => by omega, fun _ h => by simp at h⟩
    · have := hb2 q1
      rw [this]
      exact ⟨by omega, by omega, fun h => by omega, fun _ _ => rfl⟩
  · subst hb
    have hs' : x.s ≠ 0 := hs
    have e0 : (x.n + 1 + 1).tmod x.s = (x.n + 1 + 1) % x.s := tmod_emod (by omega)
    show (colR false x.s (x.n + 1) x.reds (metS x) (wasS x)).1 = decide ((x.n + 1 + 1) % x.s ≠ 0)
    simp only [colR, if_neg hs', if_true, e0]
theorem turn_work {blue : Bool} {k d : Int} {x : St} (h : okS blue k x) (he : k = x.e) (hd : k ≤ d) : workW blue d (turnS blue x k) ≤ workW blue d x := by
  have hr := restR_bd h
  have hw := workW_nonneg (d := d) h
  have ht := turn_rest h
  have hz := turn_zero (blue := blue) (k := k) (x := x)
  obtain ⟨h1, h2, h3, h4, h5, h6, h7, h8, h9, h10, h11, h12, h13⟩ := h
  have ep : (turnS blue x k).p = x.p := rfl
  have en : (turnS blue x k).need = x.need := rfl
  have es : (turnS blue x k).s = x.s := rfl
  have el : (turnS blue x k).left = x.need := rfl
  have ee : (turnS blue x k).e = k + x.p := rfl
  unfold workW at hw ⊢
  rw [ep, en, es, el, ee]
  rw [if_pos (show x.e ≤ d by omega)] at hw ⊢
  by_cases hq : k + x.p ≤ d
  · rw [if_pos hq]
    have hm : (d - (k + x.p)) / x.p = (d - x.e) / x.p - 1 := by
      rw [show d - x.e = (d - (k + x.p)) + 1 * x.p by omega, Int.add_mul_ediv_right _ _ (by omega)]
      omega
    rw [hm]
    generalize (d - x.e) / x.p = m
    have hl : (0 : Int) ≤ (if x.red = true then x.left else 0) := by split <;> omega
    by_cases hs : x.s = 0
    · rw [hz hs, if_pos rfl, hs]
      simp only [capF, if_true]
      rw [Int.mul_sub, Int.mul_one]
      omega
    · rcases ht hs with ⟨q1, q2, q3⟩ | ⟨q1, q2⟩
      · rw [q1, if_pos rfl, q2]
        have := capF_red (r := restR blue x) (m := m) hs
        rw [← this, Int.mul_add, Int.mul_one]
        omega
      · rw [q1, q2, capF_blue hs]
        have := Int.mul_le_mul_of_nonneg_left (capF_mono (s := x.s) (r := 0) (r' := restR blue x) (m := m) (m' := m) h3 (hr.imp_right And.left) (Int.le_refl _)) (show 0 ≤ x.need by omega)
        simp only [Bool.false_eq_true, if_false]
        omega
  · rw [if_neg hq]
    exact hw
theorem tq_cases {blue : Bool} {k : Int} {x : St} (h : okS blue k x) : (k = x.e ∧ tq blue k x = turnS blue x k) ∨ (k + 1 ≤ x.e ∧ tq blue k x = x) := by
  obtain ⟨h1, h2, h3, h4, h5, h6, h7, _⟩ := h
  have := mul_mod_here (k := k) (p := x.p) (n := x.n + 1) h1 (by omega) (by omega)
  unfold tq
  by_cases hq : k.tmod x.p = 0
  · exact .inl ⟨by have := this.1 hq; omega, if_pos hq⟩
  · refine .inr ⟨?_, if_neg hq⟩
    have : k ≠ (x.n + 1) * x.p := fun h => hq (this.2 h)
    omega
theorem tq_ok {blue : Bool} {k : Int} {x : St} (h : okS blue k x) : okS blue (k + 1) (tq blue k x) := by
  rcases tq_cases h with ⟨he, hq⟩ | ⟨he, hq⟩
  · rw [hq]; exact turn_ok h he
  · rw [hq]
    obtain ⟨h1, h2, h3, h4, h5, h6, h7, h8⟩ := h
    exact ⟨h1, h2, h3, h4, h5, he, by omega, h8⟩
theorem tq_work {blue : Bool} {k d : Int} {x : St} (h : okS blue k x) (hd : k ≤ d) : workW blue d (tq blue k x) ≤ workW blue d x := by
  rcases tq_cases h with ⟨he, hq⟩ | ⟨he, hq⟩
  · rw [hq]; exact turn_work h he hd
  · rw [hq]; exact Int.le_refl _
theorem firstTo_spec (red : Bool) (S : List St) : ∀ i, i ≤ S.length →
    (firstTo red S i = -1 ∧ ∀ j x, j < i → S[j]? = some x → ¬ (x.red = red ∧ 0 < x.left)) ∨
    ∃ b x, firstTo red S i = (b : Nat) ∧ S[b]? = some x ∧ x.red = red ∧ 0 < x.left ∧ ∀ j y, j < i → S[j]? = some y → y.red = red → 0 < y.left → x.e ≤ y.e
  | 0, _ => .inl ⟨rfl, fun _ _ h => by omega⟩
  | i + 1, hi => by
    have ih := firstTo_spec red S i (by omega)
    obtain ⟨z, hz⟩ : ∃ z, S[i]? = some z := ⟨_, List.getElem?_eq_getElem (by omega)⟩
    have hzd : S.getD i default = z := by rw [List.getD_eq_getElem?_getD, hz]; rfl
    simp only [firstTo, hzd, better]
    by_cases h1 : z.red = red ∧ 0 < z.left
    · rcases ih with ⟨e, hn⟩ | ⟨b, x, e, hx, hr, hl, hm⟩
      · rw [if_pos ⟨h1.1, h1.2, .inl (by omega)⟩]
        refine .inr ⟨i, z, rfl, hz, h1.1, h1.2, fun j y hj hy h2 h3 => ?_⟩
        by_cases hji : j = i
        · subst hji
          rw [hz] at hy
          injection hy with hy
          subst hy
          exact Int.le_refl _
        · exact absurd ⟨h2, h3⟩ (hn j y (by omega) hy)
      · have hxd : S.getD b default = x := by rw [List.getD_eq_getElem?_getD, hx]; rfl
        rw [e, show ((b : Int)).toNat = b by omega, hxd]
        by_cases h2 : z.e < x.e
        · rw [if_pos ⟨h1.1, h1.2, .inr h2⟩]
          refine .inr ⟨i, z, rfl, hz, h1.1, h1.2, fun j y hj hy h3 h4 => ?_⟩
          by_cases hji : j = i
          · subst hji
            rw [hz] at hy
            injection hy with hy
            subst hy
            exact Int.le_refl _
          · have := hm j y (by omega) hy h3 h4
            omega
        · rw [if_neg (by rintro ⟨_, _, h | h⟩ <;> omega)]
          refine .inr ⟨b, x, rfl, hx, hr, hl, fun j y hj hy h3 h4 => ?_⟩
          by_cases hji : j = i
          · subst hji
            rw [hz] at hy
            injection hy with hy
            subst hy
            omega
          · exact hm j y (by omega) hy h3 h4
    · rw [if_neg (fun h => h1 ⟨h.1, h.2.1⟩)]
      rcases ih with ⟨e, hn⟩ | ⟨b, x, e, hx, hr, hl, hm⟩
      · refine .inl ⟨e, fun j y hj hy => ?_⟩
        by_cases hji : j = i
        · subst hji
          rw [hz] at hy
          injection hy with hy
          subst hy
          exact h1
        · exact hn j y (by omega) hy
      · refine .inr ⟨b, x, e, hx, hr, hl, fun j y hj hy h3 h4 => ?_⟩
        by_cases hji : j = i
        · subst hji
          rw [hz] at hy
          injection hy with hy
          subst hy
          exact absurd ⟨h3, h4⟩ h1
        · exact hm j y (by omega) hy h3 h4
theorem firstS_spec (red : Bool) (S : List St) :
    (firstS red S = -1 ∧ ∀ x ∈ S, ¬ (x.red = red ∧ 0 < x.left)) ∨
    ∃ b x, firstS red S = (b : Nat) ∧ S[b]? = some x ∧ x.red = red ∧ 0 < x.left ∧ ∀ y ∈ S, y.red = red → 0 < y.left → x.e ≤ y.e := by
  rcases firstTo_spec red S S.length (Nat.le_refl _) with ⟨e, hn⟩ | ⟨b, x, e, hx, hr, hl, hm⟩
  · refine .inl ⟨e, fun x hx => ?_⟩
    obtain ⟨j, hj, rfl⟩ := List.mem_iff_getElem.1 hx
    exact hn j _ hj (List.getElem?_eq_getElem hj)
  · refine .inr ⟨b, x, e, hx, hr, hl, fun y hy => ?_⟩
    obtain ⟨j, hj, rfl⟩ := List.mem_iff_getElem.1 hy
    exact hm j _ hj (List.getElem?_eq_getElem hj)
/-- Who runs: nobody; or a task with work left: a red one, the first to end; a blue one only if no red one waits. -/
theorem atS_spec (blue : Bool) (S : List St) :
    (atS blue S = -1 ∧ (∀ x ∈ S, ¬ (x.red = true ∧ 0 < x.left)) ∧ (blue = true → ∀ x ∈ S, ¬ 0 < x.left)) ∨
    (∃ b x, atS blue S = (b : Nat) ∧ S[b]? = some x ∧ x.red = true ∧ 0 < x.left ∧ ∀ y ∈ S, y.red = true → 0 < y.left → x.e ≤ y.e) ∨
    (∃ b x, atS blue S = (b : Nat) ∧ S[b]? = some x ∧ x.red = false ∧ 0 < x.left ∧ blue = true ∧ ∀ x ∈ S, ¬ (x.red = true ∧ 0 < x.left)) := by
  unfold atS
  rcases firstS_spec true S with ⟨e, hn⟩ | ⟨b, x, e, hx, hr, hl, hm⟩
  · rw [e]
    cases blue with
    | false => exact .inl ⟨rfl, hn, fun h => by cases h⟩
    | true =>
      rw [if_pos ⟨rfl, rfl⟩]
      rcases firstS_spec false S with ⟨e2, hn2⟩ | ⟨b, x, e2, hx, hr, hl, hm⟩
      · refine .inl ⟨e2, hn, fun _ x hx hl => ?_⟩
        cases hq : x.red with
        | true => exact hn x hx ⟨hq, hl⟩
        | false => exact hn2 x hx ⟨hq, hl⟩
      · exact .inr (.inr ⟨b, x, e2, hx, hr, hl, rfl, hn⟩)
  · rw [if_neg (by rintro ⟨h, _⟩; omega)]
    exact .inr (.inl ⟨b, x, e, hx, hr, hl, hm⟩)
def alike (x y : St) : Prop := x.p = y.p ∧ x.need = y.need ∧ x.s = y.s
theorem ask_alike {L : Int} {x y : St} (h : alike x y) : askD L x = askD L y := by
  obtain ⟨h1, h2, h3⟩ := h
  unfold askD
  rw [h1, h2, h3]
theorem tq_alike (blue : Bool) (k : Int) (x : St) : alike (tq blue k x) x := by
  unfold tq
  split <;> exact ⟨rfl, rfl, rfl⟩
theorem sum_step (L : Int) (blue : Bool) (k : Int) (r : Rn) : sumL (askD L) (stepS blue k r).S = sumL (askD L) r.S := by
  have h1 : sumL (askD L) (r.S.map (tq blue k)) = sumL (askD L) r.S := by
    rw [sum_map]
    exact congrArg List.sum (List.map_congr_left fun x _ => ask_alike (tq_alike blue k x))
  simp only [stepS, decS]
  generalize hS : r.S.map (tq blue k) = S1 at *
  split
  · exact h1
  · rename_i hne
    rcases atS_spec blue S1 with ⟨e, _⟩ | ⟨b, x, e, hx, _⟩ | ⟨b, x, e, hx, _⟩
    · exact absurd e hne
    all_goals
      have hxd : S1.getD b default = x := by rw [List.getD_eq_getElem?_getD, hx]; rfl
      rw [e, show ((b : Int)).toNat = b by omega, hxd, sum_set _ _ _ _ _ hx, h1, ask_alike (x := decSt x) (y := x) ⟨rfl, rfl, rfl⟩]
      omega
theorem ask_run (L : Int) (blue : Bool) (S0 : List St) : ∀ k, sumL (askD L) (runTo blue S0 k).S = sumL (askD L) S0
  | 0 => rfl
  | k + 1 => by rw [runTo, sum_step, ask_run L blue S0 k]
/-- The invariant: what is asked up to any later tick goes in. -/
theorem inv (blue : Bool) (S0 : List St) (h0 : ∀ x ∈ S0, okS blue 0 x) (hi : ∀ x ∈ S0, x.n = -1) (H : ∀ L, 0 ≤ L → sumL (askD L) S0 ≤ L) : ∀ k : Nat,
    (∀ x ∈ (runTo blue S0 k).S, okS blue k x) ∧ ∀ d : Int, k ≤ d → sumL (workW blue d) (runTo blue S0 k).S ≤ d - k
  | 0 => by
    refine ⟨h0, fun d hd => ?_⟩
    have h1 := H d (by omega)
    refine Int.le_trans (sum_le (g := askD d) (fun x hx => ?_)) (show sumL (askD d) (runTo blue S0 0).S ≤ d - ((0 : Nat) : Int) by show sumL (askD d) S0 ≤ _; omega)
    have hx0 := h0 x hx
    have hn := hi x hx
    obtain ⟨q1, q2, q3, q4, q5, q6, q7, q8, q9, q10, q11, q12, q13⟩ := hx0
    rw [hn] at q5
    have he : x.e = 0 := by rw [q5]; simp
    unfold workW askD
    rw [he, (q11 hn).1]
    have hd0 : (0 : Int) ≤ d := by omega
    rw [if_pos hd0]
    have hr : restR blue x = x.s - 1 := by
      unfold restR
      rw [(q11 hn).1, hn]
      cases blue <;> simp
    rw [hr]
    simp
  | k + 1 => by
    obtain ⟨hok, hsum⟩ := inv blue S0 h0 hi H k
    have hA := ask_run
    generalize hr : runTo blue S0 k = r at *
    have hask : ∀ L, 0 ≤ L → sumL (askD L) (runTo blue S0 (k + 1)).S ≤ L := fun L hL => by rw [ask_run]; exact H L hL
    rw [runTo, hr] at hask ⊢
    simp only [stepS, decS] at hask ⊢
    have ok1 : ∀ x ∈ r.S.map (tq blue k), okS blue (k + 1) x := by
      intro x hx
      obtain ⟨y, hy, rfl⟩ := List.mem_map.1 hx
      exact tq_ok (hok y hy)
    have sum1 : ∀ d : Int, k ≤ d → sumL (workW blue d) (r.S.map (tq blue k)) ≤ d - k := by
      intro d hd
      rw [sum_map]
      exact Int.le_trans (sum_le fun x hx => tq_work (hok x hx) hd) (hsum d hd)
    generalize r.S.map (tq blue k) = S1 at *
    have ok2 : ∀ x ∈ (if atS blue S1 = -1 then S1 else S1.set (atS blue S1).toNat (decSt (S1.getD (atS blue S1).toNat default))), okS blue (k + 1) x := by
      rcases atS_spec blue S1 with ⟨e, _⟩ | ⟨b, x, e, hx, _, hl, _⟩ | ⟨b, x, e, hx, _, hl, _⟩
      · rw [e, if_pos rfl]; exact ok1
      all_goals
        have hxd : S1.getD b default = x := by rw [List.getD_eq_getElem?_getD, hx]; rfl
        rw [e, if_neg (by omega), show ((b : Int)).toNat = b by omega, hxd]
        intro y hy
        rcases List.mem_or_eq_of_mem_set hy with hy | rfl
        · exact ok1 y hy
        · exact decSt_ok (ok1 x (List.mem_of_getElem? hx)) hl
    refine ⟨fun x hx => by have := ok2 x hx; push_cast; exact this, fun d hd => ?_⟩
    have hd' : (k : Int) + 1 ≤ d := by push_cast at hd; exact hd
    have hgo : (∀ y ∈ (if atS blue S1 = -1 then S1 else S1.set (atS blue S1).toNat (decSt (S1.getD (atS blue S1).toNat default))), y.e ≤ d → y.red = true → y.left = 0) → sumL (workW blue d) (if atS blue S1 = -1 then S1 else S1.set (atS blue S1).toNat (decSt (S1.getD (atS blue S1).toNat default))) ≤ d - ((k + 1 : Nat) : Int) := by
      intro hz
      refine Int.le_trans (sum_le (g := askD (d - (k + 1))) fun y hy => ?_) (Int.le_trans (hask (d - (k + 1)) (by omega)) (by push_cast; omega))
      have ho := ok2 y hy
      exact work_ask (k := k) ho ho.2.2.2.2.2.1 (hz y hy) hd'
    have hle : ∀ y ∈ S1, 0 ≤ y.left := fun y hy => (ok1 y hy).2.2.2.2.2.2.2.1
    rcases atS_spec blue S1 with ⟨e, hn, _⟩ | ⟨b, x, e, hx, hr1, hl, hm⟩ | ⟨b, x, e, hx, hr1, hl, _, hn⟩
    · refine hgo fun y hy _ hq => ?_
      rw [e, if_pos rfl] at hy
      have := hle y hy
      have := hn y hy
      rw [hq] at this
      simp at this
      omega
    · have hxd : S1.getD b default = x := by rw [List.getD_eq_getElem?_getD, hx]; rfl
      by_cases hxe : x.e ≤ d
      · rw [e, if_neg (by omega), show ((b : Int)).toNat = b by omega, hxd, sum_set _ _ _ _ _ hx, decSt_work hr1 hxe]
        have := sum1 d (by omega)
        push_cast
        omega
      · refine hgo fun y hy hyd hq => ?_
        rw [e, if_neg (by omega), show ((b : Int)).toNat = b by omega, hxd] at hy
        rcases List.mem_or_eq_of_mem_set hy with hy | rfl
        · by_cases h0 : 0 < y.left
          · have := hm y hy hq h0
            omega
          · have := hle y hy
            omega
        · exact absurd hyd hxe
    · have hxd : S1.getD b default = x := by rw [List.getD_eq_getElem?_getD, hx]; rfl
      refine hgo fun y hy hyd hq => ?_
      rw [e, if_neg (by omega), show ((b : Int)).toNat = b by omega, hxd] at hy
      rcases List.mem_or_eq_of_mem_set hy with hy | rfl
      · have := hle y hy
        have := hn y hy
        rw [hq] at this
        simp at this
        omega
      · have : x.red = true := hq
        rw [hr1] at this
        cases this
theorem mem_mkl (k : Int) (m : S33) : ∀ (S : List St) (i : Nat), m ∈ mkl k i S → ∃ j x, S[j]? = some x ∧ m ∈ mq k (i + j) x
  | [], _, h => by cases h
  | x :: l, i, h => by
    rcases List.mem_append.1 h with h | h
    · exact ⟨0, x, rfl, h⟩
    · obtain ⟨j, y, h1, h2⟩ := mem_mkl k m l (i + 1) h
      exact ⟨j + 1, y, by simpa using h1, by rw [show i + (j + 1) = i + 1 + j by omega]; exact h2⟩
theorem reds_met (blue : Bool) (S0 : List St) (h0 : ∀ x ∈ S0, okS blue 0 x) (hi : ∀ x ∈ S0, x.n = -1) (H : ∀ L, 0 ≤ L → sumL (askD L) S0 ≤ L) : ∀ (k : Nat) (m : S33), m ∈ (runTo blue S0 k).M → m.f2 = true → m.f3 = true
  | 0, m, h, _ => by cases h
  | k + 1, m, h, hr => by
    rw [runTo] at h
    simp only [stepS] at h
    rcases List.mem_append.1 h with h | h
    · exact reds_met blue S0 h0 hi H k m h hr
    · obtain ⟨j, x, hx, hm⟩ := mem_mkl _ _ _ _ h
      have hxm := List.mem_of_getElem? hx
      obtain ⟨hok, hsum⟩ := inv blue S0 h0 hi H k
      have h1 := hsum k (Int.le_refl _)
      have h2 := sum_mem (f := workW blue k) (fun y hy => workW_nonneg (hok y hy)) hxm
      have ho := hok x hxm
      unfold mq at hm
      split at hm
      · rename_i hk
        rcases tq_cases ho with ⟨he, _⟩ | ⟨he, hq⟩
        · unfold markS at hm
          split at hm
          · rw [List.mem_singleton] at hm
            subst hm
            have hred : x.red = true := hr
            have h3 := Int.le_trans h2 h1
            clear h2
            unfold workW at h3
            rw [if_pos (show x.e ≤ (k : Int) by omega), if_pos hred, show (k : Int) - x.e = 0 by omega, Int.zero_ediv] at h3
            rw [capF_zero ho.2.2.1 ((restR_bd ho).imp_right And.right) ((restR_bd ho).imp_right And.left)] at h3
            have := ho.2.2.2.2.2.2.2.1
            exact decide_eq_true (by omega)
          · cases hm
        · have hlt := ho.2.2.2.2.2.2.1
          have := (mul_mod_here (k := k) (p := x.p) (n := x.n + 1) ho.1 (by rw [← ho.2.2.2.2.1]; omega) (by rw [← ho.2.2.2.2.1]; omega)).1 hk
          rw [← ho.2.2.2.2.1] at this
          omega
      · cases hm

end Go.Proofs.Ytkjboaepeecinaa.PSk
