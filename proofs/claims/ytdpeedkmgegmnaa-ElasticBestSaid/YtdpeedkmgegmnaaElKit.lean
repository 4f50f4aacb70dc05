/- What package elastic's functions come to, in plain numbers. -/
import Derived.Test.YtdpeedkmgegmnaaPElx3
namespace Go.Proofs.Ytdpeedkmgegmnaa.Pure
open Go.RowKit Go.Proofs.Ytdpeedkmgegmnaa.PEl Go.Proofs.YtdpeedkmgegmnaaW.PrintWords Go.Proofs.YtdpeedkmgegmnaaW.PrintLast Go.Proofs.YtdpeedkmgegmnaaW.PrintMore 
set_option linter.unusedVariables false
set_option linter.unusedSimpArgs false

/-! Springs in plain numbers: sums over the first n places. -/
def sumN (f : Nat → Int) : Nat → Int
  | 0 => 0
  | n + 1 => sumN f n + f n
theorem sumN_congr {f g : Nat → Int} : ∀ n, (∀ i, i < n → f i = g i) → sumN f n = sumN g n
  | 0, _ => rfl
  | n + 1, h => by simp only [sumN]; rw [sumN_congr n fun i hi => h i (by omega), h n (by omega)]
theorem sumN_le {f g : Nat → Int} : ∀ n, (∀ i, i < n → f i ≤ g i) → sumN f n ≤ sumN g n
  | 0, _ => Int.le_refl _
  | n + 1, h => by have := sumN_le n fun i hi => h i (Nat.lt_succ_of_lt hi); have := h n (Nat.lt_succ_self n); simp only [sumN]; omega
theorem sumN_lt {f g : Nat → Int} : ∀ n, (∀ i, i < n → f i ≤ g i) → (∃ i, i < n ∧ f i < g i) → sumN f n < sumN g n
  | 0, _, ⟨i, hi, _⟩ => absurd hi (by omega)
  | n + 1, h, ⟨i, hi, hl⟩ => by
    have h1 := sumN_le n fun i hi => h i (Nat.lt_succ_of_lt hi)
    have h2 := h n (Nat.lt_succ_self n)
    simp only [sumN]
    by_cases e : i = n
    · subst e; omega
    · have := sumN_lt n (fun i hi => h i (Nat.lt_succ_of_lt hi)) ⟨i, by omega, hl⟩; omega
theorem sumN_add (f g : Nat → Int) : ∀ n, sumN (fun i => f i + g i) n = sumN f n + sumN g n
  | 0 => rfl
  | n + 1 => by simp only [sumN]; rw [sumN_add f g n]; omega
theorem sumN_mul (c : Int) (f : Nat → Int) : ∀ n, sumN (fun i => c * f i) n = c * sumN f n
  | 0 => by simp [sumN]
  | n + 1 => by simp only [sumN]; rw [sumN_mul c f n, Int.mul_add]
theorem sumN_const (c : Int) : ∀ n : Nat, sumN (fun _ => c) n = n * c
  | 0 => by simp [sumN]
  | n + 1 => by simp only [sumN]; rw [sumN_const c n]; grind
theorem sumN_nonneg {f : Nat → Int} (n : Nat) (h : ∀ i, i < n → 0 ≤ f i) : 0 ≤ sumN f n := by
  have := sumN_le (f := fun _ => 0) (g := f) n h
  rw [sumN_const] at this; omega
theorem sumN_zero {f : Nat → Int} : ∀ n, (∀ i, i < n → 0 ≤ f i) → sumN f n = 0 → ∀ i, i < n → f i = 0
  | 0, _, _, i, hi => absurd hi (by omega)
  | n + 1, h, e, i, hi => by
    have h1 := sumN_nonneg n fun i hi => h i (Nat.lt_succ_of_lt hi)
    have h2 := h n (Nat.lt_succ_self n)
    simp only [sumN] at e
    by_cases e' : i = n
    · subst e'; omega
    · exact sumN_zero n (fun i hi => h i (Nat.lt_succ_of_lt hi)) (by omega) i (by omega)
section
variable (n : Nat) (W L S : Nat → Int)
/-- The least that a spring has. -/
def fl (i : Nat) : Int := if S i = 0 then W i else L i
/-- How much is too much, with those held that h tells. -/
def mu (h : Nat → Bool) (room : Int) : Int := sumN (fun i => if h i = true then fl W L S i else W i) n - room
/-- How soft those are that are not held. -/
def so (h : Nat → Bool) : Int := sumN (fun i => if h i = true then 0 else S i) n
/-- Is this one to be held now? -/
def newB (h : Nat → Bool) (room : Int) (i : Nat) : Bool := !h i && decide ((W i - L i) * so n S h < mu n W L S h room * S i)
def nx (h : Nat → Bool) (room : Int) (i : Nat) : Bool := h i || newB n W L S h room i
def moreP (h : Nat → Bool) (room : Int) : Prop := ∃ i, i < n ∧ newB n W L S h room i = true
def goodN : Prop := ∀ i, i < n → 0 ≤ L i ∧ L i ≤ W i ∧ W i ≤ 67108864 ∧ 0 ≤ S i ∧ S i ≤ 1000
structure InvN (h : Nat → Bool) (room : Int) : Prop where
  base : ∀ i, i < n → S i = 0 → h i = true
  over : ∀ i, i < n → h i = true → S i ≠ 0 → (W i - L i) * so n S h < mu n W L S h room * S i
  pos : 0 < mu n W L S h room
variable {n W L S}
theorem so_nonneg (hg : goodN n W L S) (h : Nat → Bool) : 0 ≤ so n S h := by
  refine sumN_nonneg n fun i hi => ?_
  have := hg i hi
  split <;> omega
theorem so_pos {h : Nat → Bool} {room : Int} (hg : goodN n W L S) (hr : sumN (fl W L S) n ≤ room) (hI : InvN n W L S h room) : 0 < so n S h := by
  have h0 := so_nonneg hg h
  by_cases e : so n S h = 0
  · exfalso
    have hz := sumN_zero n (f := fun i => if h i = true then 0 else S i) (fun i hi => by have := hg i hi; split <;> omega) e
    have hp := hI.pos
    unfold mu at hp
    rw [sumN_congr (g := fl W L S) n fun i hi => ?_] at hp
    · omega
    · have := hz i hi
      split
      · rfl
      · rename_i hh
        rw [if_neg hh] at this
        exact absurd (hI.base i hi this) hh
  · omega
theorem step_inv {h : Nat → Bool} {room : Int} (hg : goodN n W L S) (hr : sumN (fl W L S) n ≤ room) (hI : InvN n W L S h room) (hm : moreP n W L S h room) : InvN n W L S (nx n W L S h room) room := by
  have hS := so_pos hg hr hI
  have hP := hI.pos
  have hS' := so_nonneg hg (nx n W L S h room)
  have e1 : mu n W L S h room = mu n W L S (nx n W L S h room) room + sumN (fun i => if newB n W L S h room i = true then W i - L i else 0) n := by
    unfold mu
    rw [show ∀ a b c : Int, a - b + c = a + c - b by omega, ← sumN_add]
    congr 1
    refine sumN_congr n fun i hi => ?_
    have hb := hI.base i hi
    unfold nx
    cases hh : h i
    · cases hn : newB n W L S h room i
      · simp
      · have : S i ≠ 0 := fun e => by rw [hb e] at hh; cases hh
        simp [fl, this]; omega
    · have : newB n W L S h room i = false := by unfold newB; rw [hh]; rfl
      simp [this]
  have e2 : so n S h = so n S (nx n W L S h room) + sumN (fun i => if newB n W L S h room i = true then S i else 0) n := by
    unfold so
    rw [← sumN_add]
    refine sumN_congr n fun i hi => ?_
    unfold nx
    cases hh : h i
    · cases hn : newB n W L S h room i
      · simp
      · simp
    · have : newB n W L S h room i = false := by unfold newB; rw [hh]; rfl
      simp [this]
  have e3 : so n S h * sumN (fun i => if newB n W L S h room i = true then W i - L i else 0) n < mu n W L S h room * sumN (fun i => if newB n W L S h room i = true then S i else 0) n := by
    rw [← sumN_mul, ← sumN_mul]
    have hlt : ∀ i, newB n W L S h room i = true → so n S h * (W i - L i) < mu n W L S h room * S i := fun i hn => by
      unfold newB at hn
      have := of_decide_eq_true (Bool.and_eq_true_iff.1 hn).2
      rw [Int.mul_comm (so n S h)]; exact this
    refine sumN_lt n (fun i hi => ?_) ?_
    · split
      · rename_i hn; exact Int.le_of_lt (hlt i hn)
      · simp
    · obtain ⟨i, hi, hn⟩ := hm
      exact ⟨i, hi, by rw [if_pos hn, if_pos hn]; exact hlt i hn⟩
  have key : mu n W L S h room * so n S (nx n W L S h room) < mu n W L S (nx n W L S h room) room * so n S h := by
    generalize mu n W L S (nx n W L S h room) room = M' at *
    generalize so n S (nx n W L S h room) = S' at *
    generalize mu n W L S h room = M at *
    generalize so n S h = T at *
    generalize sumN (fun i => if newB n W L S h room i = true then W i - L i else 0) n = x at *
    generalize sumN (fun i => if newB n W L S h room i = true then S i else 0) n = y at *
    have f1 : M * S' = M * T - M * y := by rw [e2]; grind
    have f2 : M' * T = M * T - T * x := by rw [e1]; grind
    omega
  refine ⟨fun i hi e => by unfold nx; rw [hI.base i hi e]; rfl, fun i hi hh hne => ?_, ?_⟩
  · have hlt : (W i - L i) * so n S h < mu n W L S h room * S i := by
      unfold nx at hh
      rcases Bool.or_eq_true_iff.1 hh with h1 | h1
      · exact hI.over i hi h1 hne
      · unfold newB at h1; exact of_decide_eq_true (Bool.and_eq_true_iff.1 h1).2
    have hSi : 0 < S i := by have := hg i hi; omega
    generalize mu n W L S (nx n W L S h room) room = M' at *
    generalize so n S (nx n W L S h room) = S' at *
    generalize mu n W L S h room = M at *
    generalize so n S h = T at *
    generalize W i - L i = d at *
    have g1 : d * T * S' ≤ M * S i * S' := Int.mul_le_mul_of_nonneg_right (Int.le_of_lt hlt) hS'
    have g2 : M * S' * S i < M' * T * S i := Int.mul_lt_mul_of_pos_right key hSi
    have g3 : d * S' * T < M' * S i * T := by
      rw [show d * S' * T = d * T * S' by grind, show M' * S i * T = M' * T * S i by grind]
      rw [show M * S i * S' = M * S' * S i by grind] at g1
      omega
    exact Int.lt_of_mul_lt_mul_right g3 (Int.le_of_lt hS)
  · have : 0 ≤ mu n W L S h room * so n S (nx n W L S h room) := Int.mul_nonneg (Int.le_of_lt hP) hS'
    have : 0 < mu n W L S (nx n W L S h room) room * so n S h := by omega
    exact Int.pos_of_mul_pos_left this hS
end

/-! Springs in plain numbers: what they have when none is to be held any more. -/
def upd (x s : Int) : Int := -(-x / s)
theorem upd_bd {s : Int} (x : Int) (hs : 0 < s) : x ≤ upd x s * s ∧ upd x s * s < x + s := by
  unfold upd
  have h1 := Int.ediv_mul_le (-x) (show s ≠ 0 by omega)
  have h2 := Int.lt_ediv_add_one_mul_self (-x) hs
  rw [Int.add_mul, Int.one_mul] at h2
  rw [Int.neg_mul]
  omega
section
variable (n : Nat) (W L S : Nat → Int)
def outN (h : Nat → Bool) (room : Int) (i : Nat) : Int := if h i = true then fl W L S i else W i - upd (mu n W L S h room * S i) (so n S h)
structure FinN (h : Nat → Bool) (room : Int) : Prop extends InvN n W L S h room where
  full : ∀ i, i < n → h i = false → mu n W L S h room * S i ≤ (W i - L i) * so n S h
variable {n W L S}
theorem fin_of {h : Nat → Bool} {room : Int} (hI : InvN n W L S h room) (hm : ¬ moreP n W L S h room) : FinN n W L S h room :=
  ⟨hI, fun i hi hh => Int.not_lt.1 fun g => hm ⟨i, hi, by unfold newB; rw [hh, decide_eq_true g]; rfl⟩⟩
theorem up_range {h : Nat → Bool} {room : Int} (hg : goodN n W L S) (hr : sumN (fl W L S) n ≤ room) (hF : FinN n W L S h room) (i : Nat) (hi : i < n) (hh : h i = false) :
    0 ≤ upd (mu n W L S h room * S i) (so n S h) ∧ upd (mu n W L S h room * S i) (so n S h) ≤ W i - L i := by
  have hT := so_pos hg hr hF.toInvN
  have hM := hF.pos
  have hf := hF.full i hi hh
  have hSi := (hg i hi).2.2.2.1
  have hp : 0 ≤ mu n W L S h room * S i := Int.mul_nonneg (Int.le_of_lt hM) hSi
  have ⟨b1, b2⟩ := upd_bd (mu n W L S h room * S i) hT
  generalize mu n W L S h room * S i = x at *
  generalize so n S h = T at *
  generalize upd x T = u at *
  constructor
  · have : 0 * T ≤ u * T := by omega
    exact Int.le_of_mul_le_mul_right this hT
  · have : u * T < (W i - L i + 1) * T := by rw [Int.add_mul, Int.one_mul]; omega
    have := Int.lt_of_mul_lt_mul_right this (Int.le_of_lt hT)
    omega
theorem out_range {h : Nat → Bool} {room : Int} (hg : goodN n W L S) (hr : sumN (fl W L S) n ≤ room) (hF : FinN n W L S h room) (i : Nat) (hi : i < n) :
    L i ≤ outN n W L S h room i ∧ outN n W L S h room i ≤ W i ∧ (S i = 0 → outN n W L S h room i = W i) := by
  have hb := hF.base i hi
  have := hg i hi
  unfold outN
  cases hh : h i
  · have := up_range hg hr hF i hi hh
    simp only [Bool.false_eq_true, if_false]
    refine ⟨by omega, by omega, fun e => ?_⟩
    rw [hb e] at hh; cases hh
  · simp only [if_true, fl]
    split <;> rename_i e <;> refine ⟨by omega, by omega, fun e' => ?_⟩
    · rfl
    · exact absurd e' e
theorem out_sum {h : Nat → Bool} {room : Int} (hg : goodN n W L S) (hr : sumN (fl W L S) n ≤ room) (hF : FinN n W L S h room) :
    sumN (outN n W L S h room) n ≤ room ∧ room - n ≤ sumN (outN n W L S h room) n := by
  have hT := so_pos hg hr hF.toInvN
  have e : sumN (outN n W L S h room) n = mu n W L S h room + room - sumN (fun i => if h i = true then 0 else upd (mu n W L S h room * S i) (so n S h)) n := by
    have : sumN (outN n W L S h room) n + sumN (fun i => if h i = true then 0 else upd (mu n W L S h room * S i) (so n S h)) n = sumN (fun i => if h i = true then fl W L S i else W i) n := by
      rw [← sumN_add]
      refine sumN_congr n fun i hi => ?_
      unfold outN
      cases h i <;> simp <;> omega
    rw [show mu n W L S h room + room = sumN (fun i => if h i = true then fl W L S i else W i) n by unfold mu; omega]
    omega
  rw [e]
  generalize hM : mu n W L S h room = M at *
  generalize hTT : so n S h = T at *
  have u1 : M * T ≤ T * sumN (fun i => if h i = true then 0 else upd (M * S i) T) n := by
    rw [← hTT]; unfold so; rw [← sumN_mul, ← sumN_mul]
    have hTT' : sumN (fun i => if h i = true then 0 else S i) n = T := hTT
    rw [hTT']
    refine sumN_le n fun i hi => ?_
    cases h i
    · simp only [Bool.false_eq_true, if_false]
      have := (upd_bd (M * S i) hT).1
      rw [Int.mul_comm T]; exact this
    · simp
  have u2 : T * sumN (fun i => if h i = true then 0 else upd (M * S i) T) n ≤ M * T + n * T := by
    rw [← sumN_const, ← hTT]; unfold so; rw [← sumN_mul, ← sumN_mul, ← sumN_add]
    have hTT' : sumN (fun i => if h i = true then 0 else S i) n = T := hTT
    rw [hTT']
    refine sumN_le n fun i hi => ?_
    cases h i
    · simp only [Bool.false_eq_true, if_false]
      have := (upd_bd (M * S i) hT).2
      rw [Int.mul_comm T]; omega
    · simp; omega
  generalize sumN (fun i => if h i = true then 0 else upd (M * S i) T) n = U at *
  have v1 : M ≤ U := Int.le_of_mul_le_mul_right (a := T) (by rw [Int.mul_comm U]; exact u1) hT
  have v2 : U ≤ M + n := Int.le_of_mul_le_mul_right (a := T) (by rw [Int.mul_comm U, Int.add_mul]; exact u2) hT
  omega
/-- A share moved from one to another: the cost falls by no more than rounding makes. -/
theorem best {h : Nat → Bool} {room : Int} (hg : goodN n W L S) (hr : sumN (fl W L S) n ≤ room) (hF : FinN n W L S h room) (a b : Nat) (ha : a < n) (hb : b < n) (by' : Int) (hby : 1 ≤ by')
    (sa : S a ≠ 0) (sb : S b ≠ 0) (hl : L b ≤ outN n W L S h room b - by') :
    (W a - outN n W L S h room a) * (W a - outN n W L S h room a) * S b + (W b - outN n W L S h room b) * (W b - outN n W L S h room b) * S a - 2 * by' * (S a + S b)
      ≤ (W a - (outN n W L S h room a + by')) * (W a - (outN n W L S h room a + by')) * S b + (W b - (outN n W L S h room b - by')) * (W b - (outN n W L S h room b - by')) * S a := by
  have hT := so_pos hg hr hF.toInvN
  have hga := hg a ha
  have hgb := hg b hb
  have h1 : mu n W L S h room * S b ≤ (W b - outN n W L S h room b) * so n S h := by
    unfold outN at hl ⊢
    cases hh : h b
    · simp only [Bool.false_eq_true, if_false]
      rw [show ∀ x y : Int, x - (x - y) = y by intro x y; omega]
      exact (upd_bd _ hT).1
    · rw [hh] at hl
      simp [fl, sb] at hl
      omega
  have h2 : (W a - outN n W L S h room a) * so n S h < mu n W L S h room * S a + so n S h := by
    unfold outN
    cases hh : h a
    · simp only [Bool.false_eq_true, if_false]
      rw [show ∀ x y : Int, x - (x - y) = y by intro x y; omega]
      exact (upd_bd _ hT).2
    · simp only [if_true, fl, sa, if_false]
      have := hF.over a ha hh sa
      omega
  generalize outN n W L S h room a = x at *
  generalize outN n W L S h room b = y at *
  generalize mu n W L S h room = M at *
  generalize so n S h = T at *
  generalize hda : W a - x = da at *
  generalize hdb : W b - y = db at *
  rw [show W a - (x + by') = da - by' by omega, show W b - (y - by') = db + by' by omega]
  have k1 : M * S b * S a ≤ db * T * S a := Int.mul_le_mul_of_nonneg_right h1 (by omega)
  have k2 : da * T * S b < (M * S a + T) * S b := Int.mul_lt_mul_of_pos_right h2 (by omega)
  have k3 : -(S b) * T < (S a * db - S b * da) * T := by
    rw [show -(S b) * T = -(T * S b) by grind, show (S a * db - S b * da) * T = db * T * S a - da * T * S b by grind]
    rw [show (M * S a + T) * S b = M * S b * S a + T * S b by grind] at k2
    omega
  have k4 : -(S b) < S a * db - S b * da := Int.lt_of_mul_lt_mul_right k3 (Int.le_of_lt hT)
  have k5 : by' * -(S b) ≤ by' * (S a * db - S b * da) := Int.mul_le_mul_of_nonneg_left (Int.le_of_lt k4) (by omega)
  have k6 : 0 ≤ by' * by' * (S a + S b) := Int.mul_nonneg (Int.mul_nonneg (by omega) (by omega)) (by omega)
  have k7 : 0 ≤ by' * S a := Int.mul_nonneg (by omega) (by omega)
  have e1 : (da - by') * (da - by') * S b + (db + by') * (db + by') * S a = da * da * S b + db * db * S a + 2 * (by' * (S a * db - S b * da)) + by' * by' * (S a + S b) := by grind
  have e2 : 2 * by' * (S a + S b) = 2 * (by' * S a) + 2 * (by' * S b) := by grind
  have e3 : by' * -(S b) = -(by' * S b) := by grind
  omega
/-- With more room: those held are fewer, and the rate is less. -/
theorem more_step {h h' : Nat → Bool} {room room' : Int} (hg : goodN n W L S) (hr : sumN (fl W L S) n ≤ room) (hrr : room ≤ room') (hF : FinN n W L S h room) (hb : ∀ i, i < n → S i = 0 → h' i = true)
    (hs : ∀ i, i < n → h' i = true → h i = true) : mu n W L S h' room' * so n S h ≤ mu n W L S h room * so n S h' := by
  have hT := so_pos hg hr hF.toInvN
  have e1 : mu n W L S h' room' + (room' - room) = mu n W L S h room + sumN (fun i => if h i = true ∧ h' i = false then W i - L i else 0) n := by
    unfold mu
    rw [show ∀ a b c : Int, a - b + c = a + c - b by intros; omega, show ∀ a b c : Int, a + (b - c) - b = a - c by intros; omega, show ∀ a b c : Int, a - b + c = a + c - b by intros; omega, ← sumN_add]
    congr 1
    refine sumN_congr n fun i hi => ?_
    have hs := hs i hi
    have hb := hb i hi
    cases hh : h i <;> cases hh' : h' i
    · simp
    · rw [hh] at hs; exact absurd (hs hh') (by decide)
    · have : S i ≠ 0 := fun e => by rw [hb e] at hh'; cases hh'
      simp [fl, this]; omega
    · simp
  have e2 : so n S h' = so n S h + sumN (fun i => if h i = true ∧ h' i = false then S i else 0) n := by
    unfold so
    rw [← sumN_add]
    refine sumN_congr n fun i hi => ?_
    have hs := hs i hi
    cases hh : h i <;> cases hh' : h' i
    · simp
    · rw [hh] at hs; exact absurd (hs hh') (by decide)
    · simp
    · simp
  have e3 : so n S h * sumN (fun i => if h i = true ∧ h' i = false then W i - L i else 0) n ≤ mu n W L S h room * sumN (fun i => if h i = true ∧ h' i = false then S i else 0) n := by
    rw [← sumN_mul, ← sumN_mul]
    refine sumN_le n fun i hi => ?_
    split
    · rename_i hc
      have hne : S i ≠ 0 := fun e => by have := hb i hi e; rw [hc.2] at this; cases this
      have := hF.over i hi hc.1 hne
      rw [Int.mul_comm (so n S h)]; omega
    · simp
  generalize sumN (fun i => if h i = true ∧ h' i = false then W i - L i else 0) n = x at *
  generalize sumN (fun i => if h i = true ∧ h' i = false then S i else 0) n = y at *
  generalize mu n W L S h' room' = M' at *
  generalize mu n W L S h room = M at *
  generalize so n S h' = T' at *
  generalize so n S h = T at *
  have p1 : 0 ≤ (room' - room) * T := Int.mul_nonneg (by omega) (Int.le_of_lt hT)
  have q1 : M' * T = M * T + T * x - (room' - room) * T := by rw [show M' = M + x - (room' - room) by omega]; grind
  have q2 : M * T' = M * T + M * y := by rw [e2]; grind
  omega
theorem more_new {h h' : Nat → Bool} {room room' : Int} (hg : goodN n W L S) (hr : sumN (fl W L S) n ≤ room) (hrr : room ≤ room') (hF : FinN n W L S h room) (hb : ∀ i, i < n → S i = 0 → h' i = true)
    (hs : ∀ i, i < n → h' i = true → h i = true) : ∀ i, i < n → nx n W L S h' room' i = true → h i = true := by
  intro i hi hn
  unfold nx at hn
  rcases Bool.or_eq_true_iff.1 hn with h1 | h1
  · exact hs i hi h1
  · have hT := so_pos hg hr hF.toInvN
    have hT' := so_nonneg hg h'
    unfold newB at h1
    have h2 := of_decide_eq_true (Bool.and_eq_true_iff.1 h1).2
    cases hh : h i
    · exfalso
      have h3 := hF.full i hi hh
      have h4 := more_step hg hr hrr hF hb hs
      have hSi := (hg i hi).2.2.2.1
      generalize mu n W L S h' room' = M' at *
      generalize mu n W L S h room = M at *
      generalize so n S h' = T' at *
      generalize so n S h = T at *
      generalize W i - L i = d at *
      have g1 : d * T' * T < M' * S i * T := Int.mul_lt_mul_of_pos_right h2 hT
      have g2 : M' * T * S i ≤ M * T' * S i := Int.mul_le_mul_of_nonneg_right h4 hSi
      have g3 : M * S i * T' ≤ d * T * T' := Int.mul_le_mul_of_nonneg_right h3 hT'
      rw [show d * T' * T = d * T * T' by grind, show M' * S i * T = M' * T * S i by grind] at g1
      rw [show M * S i * T' = M * T' * S i by grind] at g3
      omega
    · rfl
theorem more_out {h h' : Nat → Bool} {room room' : Int} (hg : goodN n W L S) (hr : sumN (fl W L S) n ≤ room) (hrr : room ≤ room') (hF : FinN n W L S h room) (hF' : FinN n W L S h' room')
    (hs : ∀ i, i < n → h' i = true → h i = true) (i : Nat) (hi : i < n) : outN n W L S h room i ≤ outN n W L S h' room' i := by
  have hr' : sumN (fl W L S) n ≤ room' := by omega
  cases hh : h i
  · have hh' : h' i = false := by cases g : h' i; rfl; have := hs i hi g; rw [hh] at this; cases this
    unfold outN
    rw [hh, hh']
    simp only [Bool.false_eq_true, if_false]
    have hT := so_pos hg hr hF.toInvN
    have hT' := so_pos hg hr' hF'.toInvN
    have h4 := more_step hg hr hrr hF hF'.base hs
    have hSi := (hg i hi).2.2.2.1
    have ⟨b1, b2⟩ := upd_bd (mu n W L S h room * S i) hT
    have ⟨c1, c2⟩ := upd_bd (mu n W L S h' room' * S i) hT'
    generalize upd (mu n W L S h room * S i) (so n S h) = u at *
    generalize upd (mu n W L S h' room' * S i) (so n S h') = u' at *
    generalize mu n W L S h' room' = M' at *
    generalize mu n W L S h room = M at *
    generalize so n S h' = T' at *
    generalize so n S h = T at *
    -- u T >= M S, u' T' < M' S + T'; M' T <= M T'
    have g1 : u' * T' * T < (M' * S i + T') * T := Int.mul_lt_mul_of_pos_right c2 hT
    have g2 : M' * T * S i ≤ M * T' * S i := Int.mul_le_mul_of_nonneg_right h4 hSi
    have g3 : M * S i * T' ≤ u * T * T' := Int.mul_le_mul_of_nonneg_right b1 (Int.le_of_lt hT')
    have g4 : u' * (T' * T) < (u + 1) * (T' * T) := by
      rw [show u' * (T' * T) = u' * T' * T by grind, show (u + 1) * (T' * T) = u * T * T' + T' * T by grind]
      rw [show (M' * S i + T') * T = M' * T * S i + T' * T by grind] at g1
      rw [show M * S i * T' = M * T' * S i by grind] at g3
      omega
    have := Int.lt_of_mul_lt_mul_right g4 (Int.le_of_lt (Int.mul_pos hT' hT))
    omega
  · have h2 := out_range hg hr' hF' i hi
    by_cases e : S i = 0
    · have := (out_range hg hr hF i hi).2.2 e
      have := h2.2.2 e
      omega
    · have : outN n W L S h room i = L i := by unfold outN; rw [hh]; simp [fl, e]
      omega
end

/-! Package elastic's functions, in plain numbers. -/
abbrev SpE := S29
def eW (l : List SpE) (i : Nat) : Int := (rd_T29 l (i : Int)).f0
def eL (l : List SpE) (i : Nat) : Int := (rd_T29 l (i : Int)).f1
def eS (l : List SpE) (i : Nat) : Int := (rd_T29 l (i : Int)).f2
def goodL (l : List SpE) : Prop := l.length ≤ 20 ∧ ∀ t ∈ l, goodSB t.f0 t.f1 t.f2 = true
instance (l : List SpE) : Decidable (goodL l) := by unfold goodL; infer_instance
theorem goodSB_iff {p n s : Int} (h : goodSB p n s = true) : p ≤ 67108864 ∧ 0 ≤ n ∧ n ≤ p ∧ 0 ≤ s ∧ s ≤ 1000 := of_decide_eq_true h
theorem rdT_mem (l : List SpE) (i : Nat) (h : i < l.length) : rd_T29 l (i : Int) ∈ l := by
  unfold rd_T29
  rw [show ((i : Int)).toNat = i by omega, List.getD_eq_getElem?_getD, List.getElem?_eq_getElem h]
  exact List.getElem_mem h
theorem good_N {l : List SpE} (hg : goodL l) : goodN l.length (eW l) (eL l) (eS l) := by
  intro i hi
  have := goodSB_iff (hg.2 _ (rdT_mem l i hi))
  unfold eW eL eS
  omega
theorem all_is (l : List SpE) : elastic_all.f l = some (decide (goodL l)) := by
  unfold elastic_all.f cfSpring.f
  simp only [Option.bind_some]
  by_cases h : (l.length : Int) ≤ 20
  · rw [if_pos h]
    congr 1
    rw [Bool.eq_iff_iff, decide_eq_true_iff]
    unfold goodL
    simp only [Bool.not_eq_true', List.any_eq_false, Bool.not_eq_eq_eq_not, Bool.not_true, Bool.not_eq_false]
    constructor
    · intro g; exact ⟨by omega, g⟩
    · intro g; exact g.2
  · rw [if_neg h]
    congr 1; symm; rw [decide_eq_false_iff_not]
    intro g; exact h (by have := g.1; omega)
theorem floor_is (l : List SpE) (i : Nat) : elastic_floor.f ((rd_T29 l (i : Int)).f0) ((rd_T29 l (i : Int)).f1) ((rd_T29 l (i : Int)).f2) = some (fl (eW l) (eL l) (eS l) i) := by
  unfold elastic_floor.f fl eW eL eS
  split <;> rfl
theorem sumN_bd {f : Nat → Int} : ∀ n, (∀ i, i < n → 0 ≤ f i ∧ f i ≤ 67108864) → 0 ≤ sumN f n ∧ sumN f n ≤ n * 67108864
  | 0, _ => by simp [sumN]
  | n + 1, h => by
    have := sumN_bd n fun i hi => h i (Nat.lt_succ_of_lt hi)
    have := h n (Nat.lt_succ_self n)
    simp only [sumN]; omega
theorem fl_bd {l : List SpE} (hg : goodL l) (i : Nat) (hi : i < l.length) : 0 ≤ fl (eW l) (eL l) (eS l) i ∧ fl (eW l) (eL l) (eS l) i ≤ 67108864 := by
  have := good_N hg i hi
  unfold fl; split <;> omega
theorem floor_loop {l : List SpE} (hg : goodL l) : ∀ (d k i : Nat), i ≤ l.length → l.length - i = d → d + 1 < k →
    elastic_Floor.l0 k (sumN (fl (eW l) (eL l) (eS l)) i) l (l.length : Int) (i : Int) = some (sumN (fl (eW l) (eL l) (eS l)) l.length, true) := by
  intro d
  induction d with
  | zero =>
    intro k i hi hd hk
    obtain ⟨k, rfl⟩ : ∃ m, k = m + 1 := ⟨k - 1, by omega⟩
    simp only [elastic_Floor.l0]
    rw [if_neg (by omega), show i = l.length by omega]
  | succ d ih =>
    intro k i hi hd hk
    obtain ⟨k, rfl⟩ : ∃ m, k = m + 1 := ⟨k - 1, by omega⟩
    simp only [elastic_Floor.l0]
    rw [if_pos (by omega), if_pos (by omega), if_pos (by omega), floor_is]
    simp only [Option.bind_some]
    have hlen := hg.1
    have hb := sumN_bd (f := fl (eW l) (eL l) (eS l)) i fun j hj => fl_bd hg j (by omega)
    have hb2 := fl_bd hg i (by omega)
    have e : sumN (fl (eW l) (eL l) (eS l)) (i + 1) = sumN (fl (eW l) (eL l) (eS l)) i + fl (eW l) (eL l) (eS l) i := rfl
    have := ih k (i + 1) (by omega) (by omega) (by omega)
    rw [e] at this
    generalize sumN (fl (eW l) (eL l) (eS l)) i = a at *
    generalize fl (eW l) (eL l) (eS l) i = b at *
    rw [w64 (x := a + b) (by omega) (by omega), w64 (x := (i : Int) + 1) (by omega) (by omega), show ((i : Int) + 1) = ((i + 1 : Nat) : Int) by omega]
    exact this
theorem Floor_is (k : Nat) (l : List SpE) (hk : 30 ≤ k) : elastic_Floor.f k l = some (if goodL l then (sumN (fl (eW l) (eL l) (eS l)) l.length, true) else (0, false)) := by
  unfold elastic_Floor.f
  rw [all_is]
  simp only [Option.bind_some]
  by_cases hg : goodL l
  · rw [decide_eq_true hg, if_pos rfl, if_pos hg]
    exact floor_loop hg l.length k 0 (by omega) (by omega) (by have := hg.1; omega)
  · rw [decide_eq_false hg, if_neg (by simp), if_neg hg]
theorem rdOf_map (h : Nat → Bool) (n i : Nat) (hi : i < n) : rdOf false ((List.range n).map h) (i : Int) = h i := by
  unfold rdOf
  rw [show ((i : Int)).toNat = i by omega, List.getD_eq_getElem?_getD, List.getElem?_map, List.getElem?_range hi]; rfl
theorem map_range_congr {α : Type} {f g : Nat → α} (n : Nat) (h : ∀ i, i < n → f i = g i) : (List.range n).map f = (List.range n).map g :=
  List.map_congr_left fun i hi => h i (List.mem_range.1 hi)
theorem set_map {α : Type} (f g : Nat → α) (n i : Nat) (b : α) (h : ∀ j, j < n → j ≠ i → g j = f j) (hb : g i = b) : ((List.range n).map f).set ((i : Int)).toNat b = (List.range n).map g := by
  rw [show ((i : Int)).toNat = i by omega]
  refine List.ext_getElem (by simp) fun j h1 h2 => ?_
  simp at h1
  rw [List.getElem_set, List.getElem_map, List.getElem_map, List.getElem_range]
  split
  · rename_i e; subst e; exact hb.symm
  · rename_i e; exact (h j h1 (Ne.symm e)).symm
theorem rd_map (f : Nat → Int) (n i : Nat) (hi : i < n) : rd ((List.range n).map f) (i : Int) = f i := by
  unfold rd
  rw [show ((i : Int)).toNat = i by omega, List.getD_eq_getElem?_getD, List.getElem?_map, List.getElem?_range hi]; rfl
theorem press_loop {l : List SpE} (hg : goodL l) (h : Nat → Bool) (room : Int) (h0 : 0 ≤ room) (h1 : room ≤ 67108864) : ∀ (d k i : Nat), i ≤ l.length → l.length - i = d → d + 1 < k →
    elastic_press.l0 k ((List.range l.length).map h) (sumN (fun j => if h j = true then fl (eW l) (eL l) (eS l) j else eW l j) i - room) (sumN (fun j => if h j = true then 0 else eS l j) i) l (l.length : Int) (i : Int)
      = some (mu l.length (eW l) (eL l) (eS l) h room, so l.length (eS l) h) := by
  intro d
  induction d with
  | zero =>
    intro k i hi hd hk
    obtain ⟨k, rfl⟩ : ∃ m, k = m + 1 := ⟨k - 1, by omega⟩
    simp only [elastic_press.l0]
    rw [if_neg (by omega), show i = l.length by omega]; rfl
  | succ d ih =>
    intro k i hi hd hk
    obtain ⟨k, rfl⟩ : ∃ m, k = m + 1 := ⟨k - 1, by omega⟩
    simp only [elastic_press.l0]
    have hlen := hg.1
    have hb := sumN_bd (f := fun j => if h j = true then fl (eW l) (eL l) (eS l) j else eW l j) i fun j hj => by
      have := fl_bd hg j (by omega); have := good_N hg j (by omega); split <;> omega
    have hc := sumN_bd (f := fun j => if h j = true then 0 else eS l j) i fun j hj => by have := good_N hg j (by omega); split <;> omega
    have hb2 := fl_bd hg i (by omega)
    have hgi := good_N hg i (by omega)
    have e1 : sumN (fun j => if h j = true then fl (eW l) (eL l) (eS l) j else eW l j) (i + 1) = sumN (fun j => if h j = true then fl (eW l) (eL l) (eS l) j else eW l j) i + (if h i = true then fl (eW l) (eL l) (eS l) i else eW l i) := rfl
    have e2 : sumN (fun j => if h j = true then 0 else eS l j) (i + 1) = sumN (fun j => if h j = true then 0 else eS l j) i + (if h i = true then 0 else eS l i) := rfl
    have := ih k (i + 1) (by omega) (by omega) (by omega)
    rw [e1, e2] at this
    rw [if_pos (by omega), if_pos (by omega), if_pos (by omega), if_pos (by simp; omega), rdOf_map h _ i (by omega), floor_is]
    simp only [Option.bind_some]
    rw [show (rd_T29 l (i : Int)).f0 = eW l i from rfl, show (rd_T29 l (i : Int)).f2 = eS l i from rfl]
    generalize sumN (fun j => if h j = true then fl (eW l) (eL l) (eS l) j else eW l j) i = a at *
    generalize sumN (fun j => if h j = true then 0 else eS l j) i = b at *
    generalize fl (eW l) (eL l) (eS l) i = f at *
    rw [w64 (x := (i : Int) + 1) (by omega) (by omega), show ((i : Int) + 1) = ((i + 1 : Nat) : Int) by omega]
    cases hh : h i
    · rw [hh] at this
      simp only [Bool.false_eq_true, if_false] at this ⊢
      rw [w64 (x := a - room + eW l i) (by omega) (by omega), w64 (x := b + eS l i) (by omega) (by omega), show a - room + eW l i = a + eW l i - room by omega]
      exact this
    · rw [hh] at this
      simp only [if_true] at this ⊢
      rw [w64 (x := a - room + f) (by omega) (by omega), show a - room + f = a + f - room by omega]
      rw [Int.add_zero] at this
      exact this
theorem press_is (k : Nat) {l : List SpE} (hg : goodL l) (h : Nat → Bool) (room : Int) (h0 : 0 ≤ room) (h1 : room ≤ 67108864) (hk : 30 ≤ k) :
    elastic_press.f k l ((List.range l.length).map h) room = some (mu l.length (eW l) (eL l) (eS l) h room, so l.length (eS l) h) := by
  unfold elastic_press.f
  rw [w64 (by omega) (by omega)]
  have := press_loop hg h room h0 h1 l.length k 0 (by omega) (by omega) (by have := hg.1; omega)
  simp only [sumN] at this
  rw [show (0 : Int) - room = -room by omega] at this
  exact this
theorem mu_bd {l : List SpE} (hg : goodL l) (h : Nat → Bool) (room : Int) (h0 : 0 ≤ room) (h1 : room ≤ 67108864) : -67108864 ≤ mu l.length (eW l) (eL l) (eS l) h room ∧ mu l.length (eW l) (eL l) (eS l) h room ≤ 1342177280 := by
  have hlen := hg.1
  have hb := sumN_bd (f := fun j => if h j = true then fl (eW l) (eL l) (eS l) j else eW l j) l.length fun j hj => by
      have := fl_bd hg j (by omega); have := good_N hg j (by omega); split <;> omega
  unfold mu; omega
theorem so_bd {l : List SpE} (hg : goodL l) (h : Nat → Bool) : 0 ≤ so l.length (eS l) h ∧ so l.length (eS l) h ≤ 20000 := by
  have hlen := hg.1
  refine ⟨so_nonneg (good_N hg) h, ?_⟩
  have := sumN_le (f := fun i => if h i = true then 0 else eS l i) (g := fun _ => 1000) l.length fun i hi => by
    have := good_N hg i hi; split <;> omega
  rw [sumN_const] at this
  unfold so; omega
/-- What the test of one spring reckons. -/
theorem test_is {l : List SpE} (hg : goodL l) (h : Nat → Bool) (room : Int) (h0 : 0 ≤ room) (h1 : room ≤ 67108864) (i : Nat) (hi : i < l.length) :
    wrap64 (wrap64 (eW l i - eL l i) * so l.length (eS l) h) = (eW l i - eL l i) * so l.length (eS l) h ∧ wrap64 (mu l.length (eW l) (eL l) (eS l) h room * eS l i) = mu l.length (eW l) (eL l) (eS l) h room * eS l i := by
  have hgi := good_N hg i hi
  have hm := mu_bd hg h room h0 h1
  have hs := so_bd hg h
  rw [w64 (x := eW l i - eL l i) (by omega) (by omega)]
  have b1 := mul_bd0 (x := eW l i - eL l i) (y := so l.length (eS l) h) 67108864 20000 (by omega) (by omega) (by omega) (by omega)
  have b2 := mul_bd (x := mu l.length (eW l) (eL l) (eS l) h room) (y := eS l i) 1342177280 1000 (by omega) (by omega) (by omega) (by omega)
  exact ⟨w64 (by omega) (by omega), w64 (by omega) (by omega)⟩
theorem hold_loop {l : List SpE} (hg : goodL l) (h : Nat → Bool) (room : Int) (h0 : 0 ≤ room) (h1 : room ≤ 67108864) : ∀ (d k i : Nat) (more : Bool), i ≤ l.length → l.length - i = d → d + 1 < k →
    (more = true ↔ ∃ j, j < i ∧ newB l.length (eW l) (eL l) (eS l) h room j = true) →
    ∃ m, elastic_hold.l0 k ((List.range l.length).map fun j => if j < i then nx l.length (eW l) (eL l) (eS l) h room j else h j) (mu l.length (eW l) (eL l) (eS l) h room) (so l.length (eS l) h) more l (l.length : Int) (i : Int)
      = some (m, (List.range l.length).map (nx l.length (eW l) (eL l) (eS l) h room)) ∧ (m = true ↔ moreP l.length (eW l) (eL l) (eS l) h room) := by
  intro d
  induction d with
  | zero =>
    intro k i more hi hd hk hm
    obtain ⟨k, rfl⟩ : ∃ m, k = m + 1 := ⟨k - 1, by omega⟩
    simp only [elastic_hold.l0]
    obtain rfl : i = l.length := by omega
    rw [if_neg (by omega)]
    refine ⟨more, ?_, hm⟩
    congr 2
    exact map_range_congr _ fun j hj => by rw [if_pos hj]
  | succ d ih =>
    intro k i more hi hd hk
    obtain ⟨k, rfl⟩ : ∃ m, k = m + 1 := ⟨k - 1, by omega⟩
    have a1 : i + 1 ≤ l.length := by omega
    have a2 : l.length - (i + 1) = d := by omega
    have a3 : d + 1 < k := by omega
    have a4 : -9223372036854775808 ≤ (i : Int) + 1 := by omega
    have a5 : (i : Int) + 1 ≤ 9223372036854775807 := by have := hg.1; omega
    have a6 : (i : Int) + 1 = ((i + 1 : Nat) : Int) := by omega
    intro hm
    simp only [elastic_hold.l0]
    have hlen := hg.1
    have ht := test_is hg h room h0 h1 i (by omega)
    rw [if_pos (by omega), if_pos (by omega), if_pos (by omega), if_pos (by simp; omega), rdOf_map _ _ i (by omega), if_neg (Nat.lt_irrefl i)]
    rw [show (rd_T29 l (i : Int)).f0 = eW l i from rfl, show (rd_T29 l (i : Int)).f1 = eL l i from rfl, show (rd_T29 l (i : Int)).f2 = eS l i from rfl, ht.1, ht.2]
    rw [w64 (x := (i : Int) + 1) a4 a5, show ((i : Int) + 1) = ((i + 1 : Nat) : Int) from a6]
    have hn : newB l.length (eW l) (eL l) (eS l) h room i = (!h i && decide ((eW l i - eL l i) * so l.length (eS l) h < mu l.length (eW l) (eL l) (eS l) h room * eS l i)) := rfl
    have hx : nx l.length (eW l) (eL l) (eS l) h room i = (h i || newB l.length (eW l) (eL l) (eS l) h room i) := rfl
    have stay : newB l.length (eW l) (eL l) (eS l) h room i = false → ((List.range l.length).map fun j => if j < i then nx l.length (eW l) (eL l) (eS l) h room j else h j) = ((List.range l.length).map fun j => if j < i + 1 then nx l.length (eW l) (eL l) (eS l) h room j else h j) := fun e =>
      map_range_congr _ fun j hj => by
        by_cases g : j < i
        · rw [if_pos g, if_pos (by omega)]
        · rw [if_neg g]
          by_cases g' : j = i
          · subst g'; rw [if_pos (by omega), hx, e, Bool.or_false]
          · rw [if_neg (by omega)]
    have mstay : newB l.length (eW l) (eL l) (eS l) h room i = false → (more = true ↔ ∃ j, j < i + 1 ∧ newB l.length (eW l) (eL l) (eS l) h room j = true) := fun e =>
      hm.trans ⟨fun ⟨j, a, b⟩ => ⟨j, by omega, b⟩, fun ⟨j, a, b⟩ => ⟨j, by
        by_cases g : j = i
        · subst g; rw [e] at b; cases b
        · omega, b⟩⟩
    cases hh : h i
    · simp only [Bool.false_eq_true, if_false]
      by_cases g : (eW l i - eL l i) * so l.length (eS l) h < mu l.length (eW l) (eL l) (eS l) h room * eS l i
      · rw [if_pos g]
        have e : newB l.length (eW l) (eL l) (eS l) h room i = true := by rw [hn, hh, decide_eq_true g]; rfl
        rw [set_map (g := fun j => if j < i + 1 then nx l.length (eW l) (eL l) (eS l) h room j else h j) _ _ _ _ (fun j hj hne => by
          by_cases g : j < i
          · rw [if_pos g, if_pos (by omega)]
          · rw [if_neg g, if_neg (by omega)]) (by rw [if_pos (by omega), hx, e, Bool.or_true])]
        exact ih k (i + 1) true a1 a2 a3 ⟨fun _ => ⟨i, by omega, e⟩, fun _ => rfl⟩
      · rw [if_neg g]
        have e : newB l.length (eW l) (eL l) (eS l) h room i = false := by rw [hn, decide_eq_false g, Bool.and_false]
        rw [stay e]
        exact ih k (i + 1) more a1 a2 a3 (mstay e)
    · simp only [if_true]
      have e : newB l.length (eW l) (eL l) (eS l) h room i = false := by rw [hn, hh]; rfl
      rw [stay e]
      exact ih k (i + 1) more a1 a2 a3 (mstay e)
theorem hold_is (k : Nat) {l : List SpE} (hg : goodL l) (h : Nat → Bool) (room : Int) (h0 : 0 ≤ room) (h1 : room ≤ 67108864) (hk : 30 ≤ k) :
    ∃ m, elastic_hold.f k l ((List.range l.length).map h) (mu l.length (eW l) (eL l) (eS l) h room) (so l.length (eS l) h)
      = some (m, (List.range l.length).map (nx l.length (eW l) (eL l) (eS l) h room)) ∧ (m = true ↔ moreP l.length (eW l) (eL l) (eS l) h room) := by
  unfold elastic_hold.f
  have := hold_loop hg h room h0 h1 l.length k 0 false (by omega) (by omega) (by have := hg.1; omega) ⟨fun h => by simp at h, fun ⟨j, a, _⟩ => by omega⟩
  simpa using this
/-- How many are held. -/
def cnt (n : Nat) (h : Nat → Bool) : Int := sumN (fun i => if h i = true then 1 else 0) n
theorem cnt_bd (n : Nat) (h : Nat → Bool) : 0 ≤ cnt n h ∧ cnt n h ≤ n := by
  refine ⟨sumN_nonneg n fun i _ => by split <;> omega, ?_⟩
  have := sumN_le (f := fun i => if h i = true then (1 : Int) else 0) (g := fun _ => 1) n fun i _ => by split <;> omega
  rw [sumN_const] at this
  unfold cnt; omega
theorem cnt_more {n : Nat} {W L S : Nat → Int} {h : Nat → Bool} {room : Int} (hm : moreP n W L S h room) : cnt n h + 1 ≤ cnt n (nx n W L S h room) := by
  obtain ⟨i, hi, hn⟩ := hm
  have hh : h i = false := by
    unfold newB at hn
    have := (Bool.and_eq_true_iff.1 hn).1
    simpa using this
  have := sumN_lt (f := fun i => if h i = true then (1 : Int) else 0) (g := fun i => if nx n W L S h room i = true then 1 else 0) n (fun j _ => by
    unfold nx
    cases h j
    · simp; split <;> omega
    · simp) ⟨i, hi, by unfold nx; rw [hh, hn]; decide⟩
  unfold cnt; omega
/-- What any held state at its end, in as much room or less, holds, this one holds but a part of. -/
def leastP (n : Nat) (W L S : Nat → Int) (h : Nat → Bool) (room : Int) : Prop := ∀ hX roomX, roomX ≤ room → sumN (fl W L S) n ≤ roomX → FinN n W L S hX roomX → ∀ i, i < n → h i = true → hX i = true
theorem least_step {n : Nat} {W L S : Nat → Int} {h : Nat → Bool} {room : Int} (hg : goodN n W L S) (hb : ∀ i, i < n → S i = 0 → h i = true) (hl : leastP n W L S h room) : leastP n W L S (nx n W L S h room) room :=
  fun hX roomX h1 h2 h3 => more_new hg h2 h1 h3 hb (hl hX roomX h1 h2 h3)
/-- The end of the run: a held state, all told by it. -/
structure EndN (n : Nat) (W L S : Nat → Int) (h : Nat → Bool) (room : Int) : Prop extends FinN n W L S h room where
  least : leastP n W L S h room
theorem numUp_is {a b c : Int} (ha : -9223372036854775808 ≤ a ∧ a ≤ 9223372036854775807) (hb : -9223372036854775808 ≤ b ∧ b ≤ 9223372036854775807) (hc : 0 < c) (hc2 : c ≤ 9223372036854775807) (h0 : 0 ≤ upd (a * b) c) (h1 : upd (a * b) c ≤ 67108864) :
    num_Up.f a b c = some (upd (a * b) c, true) := by
  unfold num_Up.f
  rw [if_pos ⟨⟨ha, hb⟩, hc2⟩]
  unfold upI
  rw [if_neg (by omega)]
  show some (held64 (upd (a * b) c)) = _
  unfold held64
  rw [if_pos (by unfold fits; omega)]
theorem out_loop {l : List SpE} (hg : goodL l) (h : Nat → Bool) (room : Int) (h0 : 0 ≤ room) (h1 : room ≤ 67108864) (hr : sumN (fl (eW l) (eL l) (eS l)) l.length ≤ room) (hF : FinN l.length (eW l) (eL l) (eS l) h room) : ∀ (d k i : Nat), i ≤ l.length → l.length - i = d → d + 1 < k →
    elastic_Press.l2 k ((List.range l.length).map h) ((List.range l.length).map fun j => if j < i then outN l.length (eW l) (eL l) (eS l) h room j else eW l j) (mu l.length (eW l) (eL l) (eS l) h room) (so l.length (eS l) h) l (l.length : Int) (i : Int)
      = some ((List.range l.length).map (outN l.length (eW l) (eL l) (eS l) h room), 0) := by
  intro d
  induction d with
  | zero =>
    intro k i hi hd hk
    obtain ⟨k, rfl⟩ : ∃ m, k = m + 1 := ⟨k - 1, by omega⟩
    simp only [elastic_Press.l2]
    obtain rfl : i = l.length := by omega
    rw [if_neg (by omega)]
    congr 2
    exact map_range_congr _ fun j hj => by rw [if_pos hj]
  | succ d ih =>
    intro k i hi hd hk
    obtain ⟨k, rfl⟩ : ∃ m, k = m + 1 := ⟨k - 1, by omega⟩
    simp only [elastic_Press.l2]
    have hlen := hg.1
    have hn := ih k (i + 1) (by omega) (by omega) (by omega)
    rw [if_pos (by omega), if_pos (by omega), if_pos (by omega), if_pos (by simp; omega), rdOf_map h _ i (by omega), floor_is]
    simp only [Option.bind_some]
    rw [show (rd_T29 l (i : Int)).f0 = eW l i from rfl, show (rd_T29 l (i : Int)).f2 = eS l i from rfl]
    rw [w64 (x := (i : Int) + 1) (by omega) (by omega), show ((i : Int) + 1) = ((i + 1 : Nat) : Int) by omega]
    have hgi := good_N hg i (by omega)
    have hm := mu_bd hg h room h0 h1
    have hs := so_bd hg h
    have hT := so_pos (good_N hg) hr hF.toInvN
    have next : ∀ b, outN l.length (eW l) (eL l) (eS l) h room i = b → ((List.range l.length).map fun j => if j < i then outN l.length (eW l) (eL l) (eS l) h room j else eW l j).set ((i : Int)).toNat b = ((List.range l.length).map fun j => if j < i + 1 then outN l.length (eW l) (eL l) (eS l) h room j else eW l j) := fun b hb =>
      set_map _ _ _ _ _ (fun j hj hne => by
        by_cases g : j < i
        · rw [if_pos g, if_pos (by omega)]
        · rw [if_neg g, if_neg (by omega)]) (by rw [if_pos (by omega)]; exact hb)
    cases hh : h i
    · simp only [Bool.false_eq_true, if_false]
      have hu := up_range (good_N hg) hr hF i (by omega) hh
      rw [numUp_is (by omega) (by omega) hT (by omega) hu.1 (by omega)]
      simp only [Option.bind_some]
      rw [if_pos (by simp; omega), next _ (by unfold outN; rw [hh]; simp only [Bool.false_eq_true, if_false]; rw [w64 (by omega) (by omega)])]
      exact hn
    · simp only [if_true]
      rw [if_pos (by simp; omega), next _ (by unfold outN; rw [hh]; rfl)]
      exact hn
theorem run_loop {l : List SpE} (hg : goodL l) (room : Int) (h0 : 0 ≤ room) (h1 : room ≤ 67108864) (hr : sumN (fl (eW l) (eL l) (eS l)) l.length ≤ room) : ∀ (d k : Nat) (h : Nat → Bool), (l.length : Int) - cnt l.length h ≤ d → d + 40 < k → InvN l.length (eW l) (eL l) (eS l) h room → leastP l.length (eW l) (eL l) (eS l) h room →
    ∃ hE, EndN l.length (eW l) (eL l) (eS l) hE room ∧
      elastic_Press.l1 k l room ((List.range l.length).map h) ((List.range l.length).map (eW l)) (mu l.length (eW l) (eL l) (eS l) h room) (so l.length (eS l) h) = some ((List.range l.length).map (outN l.length (eW l) (eL l) (eS l) hE room), 0) := by
  have hlen := hg.1
  have stop : ∀ (k : Nat) (h : Nat → Bool), 40 < k → InvN l.length (eW l) (eL l) (eS l) h room → leastP l.length (eW l) (eL l) (eS l) h room → ¬ moreP l.length (eW l) (eL l) (eS l) h room → (k' : Nat) → k = k' + 1 →
      ∃ hE, EndN l.length (eW l) (eL l) (eS l) hE room ∧
      elastic_Press.l1 k l room ((List.range l.length).map h) ((List.range l.length).map (eW l)) (mu l.length (eW l) (eL l) (eS l) h room) (so l.length (eS l) h) = some ((List.range l.length).map (outN l.length (eW l) (eL l) (eS l) hE room), 0) := by
    intro k h hk hI hl hm k' e
    subst e
    have hF := fin_of hI hm
    refine ⟨h, ⟨hF, hl⟩, ?_⟩
    simp only [elastic_Press.l1]
    obtain ⟨m, hm1, hm2⟩ := hold_is k' hg h room h0 h1 (by omega)
    rw [hm1]
    simp only [Option.bind_some]
    rw [if_neg (fun e => hm (hm2.1 e))]
    have e2 : (List.range l.length).map (nx l.length (eW l) (eL l) (eS l) h room) = (List.range l.length).map h := map_range_congr _ fun i hi => by
      unfold nx
      cases g : newB l.length (eW l) (eL l) (eS l) h room i
      · rw [Bool.or_false]
      · exact absurd ⟨i, hi, g⟩ hm
    rw [e2]
    have := out_loop hg h room h0 h1 hr hF l.length k' 0 (by omega) (by omega) (by omega)
    simpa using this
  intro d
  induction d with
  | zero =>
    intro k h hc hk hI hl
    refine stop k h (by omega) hI hl ?_ (k - 1) (by omega)
    intro hm
    have := cnt_more hm
    have := cnt_bd l.length (nx l.length (eW l) (eL l) (eS l) h room)
    omega
  | succ d ih =>
    intro k h hc hk hI hl
    by_cases hm : moreP l.length (eW l) (eL l) (eS l) h room
    · obtain ⟨k, rfl⟩ : ∃ m, k = m + 1 := ⟨k - 1, by omega⟩
      have hcm := cnt_more hm
      have hI' := step_inv (good_N hg) hr hI hm
      have hl' := least_step (good_N hg) hI.base hl
      obtain ⟨hE, hE1, hE2⟩ := ih k (nx l.length (eW l) (eL l) (eS l) h room) (by omega) (by omega) hI' hl'
      refine ⟨hE, hE1, ?_⟩
      simp only [elastic_Press.l1]
      obtain ⟨m, hm1, hm2⟩ := hold_is k hg h room h0 h1 (by omega)
      rw [hm1]
      simp only [Option.bind_some]
      rw [if_pos (hm2.2 hm), press_is k hg _ room h0 h1 (by omega)]
      simp only [Option.bind_some]
      exact hE2
    · exact stop k h (by omega) hI hl hm (k - 1) (by omega)
/-- The first state: rigid ones are held. -/
def firstH (l : List SpE) (i : Nat) : Bool := eS l i == 0
theorem first_loop {l : List SpE} (hg : goodL l) (room : Int) : ∀ (d k i : Nat), i ≤ l.length → l.length - i = d → d + 1 < k →
    ∃ k', k ≤ k' + d + 1 ∧ elastic_Press.l0 k l room ((List.range l.length).map fun j => if j < i then firstH l j else false) ((List.range l.length).map fun j => if j < i then eW l j else 0) l (l.length : Int) (i : Int)
      = (elastic_press.f k' l ((List.range l.length).map (firstH l)) room).bind fun b => if b.1 ≤ 0 then some ((List.range l.length).map (eW l), 0) else elastic_Press.l1 k' l room ((List.range l.length).map (firstH l)) ((List.range l.length).map (eW l)) b.1 b.2 := by
  intro d
  induction d with
  | zero =>
    intro k i hi hd hk
    obtain ⟨k, rfl⟩ : ∃ m, k = m + 1 := ⟨k - 1, by omega⟩
    refine ⟨k, by omega, ?_⟩
    simp only [elastic_Press.l0]
    obtain rfl : i = l.length := by omega
    rw [if_neg (by omega), map_range_congr (g := firstH l) _ fun j hj => by rw [if_pos hj], map_range_congr (g := eW l) _ fun j hj => by rw [if_pos hj]]
  | succ d ih =>
    intro k i hi hd hk
    obtain ⟨k, rfl⟩ : ∃ m, k = m + 1 := ⟨k - 1, by omega⟩
    have hlen := hg.1
    obtain ⟨k', h1, h2⟩ := ih k (i + 1) (by omega) (by omega) (by omega)
    refine ⟨k', by omega, ?_⟩
    simp only [elastic_Press.l0]
    rw [if_pos (by omega), if_pos (by omega), if_pos (by omega), if_pos (by simp; omega), if_pos (by simp; omega)]
    rw [w64 (x := (i : Int) + 1) (by omega) (by omega), show ((i : Int) + 1) = ((i + 1 : Nat) : Int) by omega, ← h2]
    congr 1
    · exact set_map _ _ _ _ _ (fun j hj hne => by
        by_cases g : j < i
        · rw [if_pos g, if_pos (by omega)]
        · rw [if_neg g, if_neg (by omega)]) (by rw [if_pos (by omega)]; rfl)
    · exact set_map _ _ _ _ _ (fun j hj hne => by
        by_cases g : j < i
        · rw [if_pos g, if_pos (by omega)]
        · rw [if_neg g, if_neg (by omega)]) (by rw [if_pos (by omega)]; rfl)
theorem first_inv {l : List SpE} {room : Int} (hm : 0 < mu l.length (eW l) (eL l) (eS l) (firstH l) room) : InvN l.length (eW l) (eL l) (eS l) (firstH l) room :=
  ⟨fun i _ e => by unfold firstH; rw [e]; rfl, fun i _ e hne => absurd (beq_iff_eq.1 e) hne, hm⟩
theorem first_least (l : List SpE) (room : Int) : leastP l.length (eW l) (eL l) (eS l) (firstH l) room :=
  fun hX roomX _ _ hF i hi e => hF.base i hi (beq_iff_eq.1 e)
/-- With nobody but the rigid ones held, what is too much is what all want, less the room. -/
theorem first_mu (l : List SpE) (room : Int) : mu l.length (eW l) (eL l) (eS l) (firstH l) room = sumN (eW l) l.length - room := by
  unfold mu
  congr 1
  refine sumN_congr _ fun i _ => ?_
  unfold firstH fl
  by_cases e : eS l i = 0
  · simp [e]
  · simp [e]
/-- elastic.Press, whole. -/
theorem Press_is (k : Nat) (l : List SpE) (room : Int) (hk : 200 ≤ k) :
    (¬ (goodL l ∧ 0 ≤ room ∧ room ≤ 67108864) ∧ elastic_Press.f k l room = some ([], 1)) ∨
    ((goodL l ∧ 0 ≤ room ∧ room ≤ 67108864) ∧ room < sumN (fl (eW l) (eL l) (eS l)) l.length ∧ elastic_Press.f k l room = some ([], 9)) ∨
    ((goodL l ∧ 0 ≤ room ∧ room ≤ 67108864) ∧ sumN (fl (eW l) (eL l) (eS l)) l.length ≤ room ∧
      ((sumN (eW l) l.length ≤ room ∧ elastic_Press.f k l room = some ((List.range l.length).map (eW l), 0)) ∨
       (room < sumN (eW l) l.length ∧ ∃ h, EndN l.length (eW l) (eL l) (eS l) h room ∧ elastic_Press.f k l room = some ((List.range l.length).map (outN l.length (eW l) (eL l) (eS l) h room), 0)))) := by
  obtain ⟨k, rfl⟩ : ∃ m, k = m + 1 := ⟨k - 1, by omega⟩
  unfold elastic_Press.f
  rw [Floor_is (k + 1) l (by omega)]
  simp only [elastic_Press.j0, Option.bind_some]
  by_cases hg : goodL l
  · rw [if_pos hg]
    simp only [if_true]
    by_cases h0 : room < 0
    · left; rw [if_pos h0]; exact ⟨fun g => by omega, rfl⟩
    · rw [if_neg h0]
      by_cases h1 : room > 67108864
      · left; rw [decide_eq_true h1, if_pos rfl]; exact ⟨fun g => by omega, rfl⟩
      · rw [decide_eq_false h1, if_neg (by simp)]
        have hlen := hg.1
        by_cases h2 : sumN (fl (eW l) (eL l) (eS l)) l.length > room
        · right; left; rw [if_pos h2]; exact ⟨⟨hg, by omega, by omega⟩, by omega, rfl⟩
        · right; right
          refine ⟨⟨hg, by omega, by omega⟩, by omega, ?_⟩
          rw [if_neg h2, if_pos (by omega), if_pos (by omega), if_pos (by omega)]
          obtain ⟨k', hk', hf⟩ := first_loop hg room l.length k 0 (by omega) (by omega) (by omega)
          have e1 : List.replicate ((l.length : Int)).toNat false = (List.range l.length).map fun j => if j < 0 then firstH l j else false := by
            rw [show ((l.length : Int)).toNat = l.length by omega]
            exact List.ext_getElem (by simp) fun i _ _ => by simp
          have e2 : List.replicate ((l.length : Int)).toNat (0 : Int) = (List.range l.length).map fun j => if j < 0 then eW l j else 0 := by
            rw [show ((l.length : Int)).toNat = l.length by omega]
            exact List.ext_getElem (by simp) fun i _ _ => by simp
          rw [e1, e2]
          rw [show ((0 : Nat) : Int) = 0 from rfl] at hf
          rw [hf, press_is k' hg _ room (by omega) (by omega) (by omega)]
          simp only [Option.bind_some]
          rw [first_mu]
          by_cases h3 : sumN (eW l) l.length - room ≤ 0
          · left; rw [if_pos h3]; exact ⟨by omega, rfl⟩
          · right
            rw [if_neg h3]
            refine ⟨by omega, ?_⟩
            have := run_loop hg room (by omega) (by omega) (by omega) 20 k' (firstH l) (by have := cnt_bd l.length (firstH l); omega) (by omega) (first_inv (by rw [first_mu]; omega)) (first_least l room)
            rw [first_mu] at this
            exact this
  · left; rw [if_neg hg]; simp only [Bool.false_eq_true, if_false, if_true]; exact ⟨fun g => hg g.1, trivial⟩

theorem LeO_up {α : Type} {f : Nat → Option α} (h : ∀ k, LeO (f k) (f (k + 1))) {r : α} {k : Nat} (e : f k = some r) : ∀ m, f (k + m) = some r
  | 0 => e
  | m + 1 => h _ r (LeO_up h e m)
theorem awake_is (k : Nat) (hk : 60 ≤ k) : tocsinlaw13_awake.f k = some true := by
  have := LeO_up (f := tocsinlaw13_awake.f) (fun k => tocsinlaw13_awake.mono k) (k := 60) (r := true) (by decide +kernel) (k - 60)
  rw [show 60 + (k - 60) = k by omega] at this
  exact this

end Go.Proofs.Ytdpeedkmgegmnaa.Pure
