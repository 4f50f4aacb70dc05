/- What runs by deadlines meets every demand that can be met (law24): plain lists, no program. 
-- slim A demand can be met where some trace meets it (law24): counting. 
-- slim Sets of jobs that can be met; whom a good trace serves (law24). 
-- slim The greedy trace is a good one and serves all that are kept (law24). 
-- slim The greedy one: a good trace that earns what is kept; no single job that fits alone is worth more (law24). 
-- slim rival.Best: the most of all sets that can be met (law24). 
-- slim -/
import Derived.Test.YtobkfbkhcghaeaaGreatDoorPRvx5
import Derived.Test.YtobkfbkhcghaeaaGreatDoorRvB
namespace Go.Proofs.YtobkfbkhcghaeaaGreatDoor.PRv
open Go.RowKit Go.Proofs.YtobkfbkhcghaeaaGreatDoor.PRv Go.Proofs.YtobkfbkhcghaeaaGreatDoorW.PrintWords Go.Proofs.YtobkfbkhcghaeaaGreatDoorW.PrintLast Go.Proofs.YtobkfbkhcghaeaaGreatDoorW.PrintMore 
set_option linter.unusedVariables false
set_option linter.unusedSimpArgs false

def sumN : Nat → (Nat → Int) → Int
 | 0, _ => 0
 | n + 1, f => sumN n f + f n
theorem sumN_le (f g : Nat → Int) : ∀ n, (∀ i, i < n → f i ≤ g i) → sumN n f ≤ sumN n g
 | 0, _ => Int.le_refl _
 | n + 1, h => by
  have := sumN_le f g n (fun i hi => h i (by omega))
  have := h n (by omega)
  simp only [sumN]
  omega
theorem sumN_congr (f g : Nat → Int) (n : Nat) (h : ∀ i, i < n → f i = g i) : sumN n f = sumN n g :=
 Int.le_antisymm (sumN_le f g n fun i hi => Int.le_of_eq (h i hi)) (sumN_le g f n fun i hi => Int.le_of_eq (h i hi).symm)
theorem sumN_add (f g : Nat → Int) : ∀ n, sumN n (fun i => f i + g i) = sumN n f + sumN n g
 | 0 => rfl
 | n + 1 => by
  have := sumN_add f g n
  simp only [sumN]
  omega
theorem sumN_zero : ∀ n, sumN n (fun _ => 0) = 0
 | 0 => rfl
 | n + 1 => by simp only [sumN, sumN_zero n]; rfl
theorem sumN_nonneg (f : Nat → Int) (n : Nat) (h : ∀ i, i < n → 0 ≤ f i) : 0 ≤ sumN n f := by
 have := sumN_le (fun _ => 0) f n h
 rw [sumN_zero] at this
 exact this
theorem sumN_one (f : Nat → Int) (h0 : ∀ i, 0 ≤ f i) : ∀ n j, j < n → f j ≤ sumN n f
 | n + 1, j, hj => by
  simp only [sumN]
  by_cases e : j = n
  ·subst e
   have := sumN_nonneg f j (fun i _ => h0 i)
   omega
  ·have := sumN_one f h0 n j (by omega)
   have := h0 n
   omega
/-- A change at one place changes the sum by as much. -/
theorem sumN_at (f g : Nat → Int) (j : Nat) (d : Int) (hj : g j = f j + d) (ho : ∀ i, i ≠ j → g i = f i) : ∀ n, sumN n g = sumN n f + if j < n then d else 0
 | 0 => by simp [sumN]
 | n + 1 => by
  have ih := sumN_at f g j d hj ho n
  simp only [sumN]
  rw [ih]
  by_cases e : n = j
  ·subst e
   rw [if_neg (by omega), if_pos (by omega), hj]
   omega
  ·rw [ho n e]
   by_cases h : j < n
   ·rw [if_pos h, if_pos (by omega)]; omega
   ·rw [if_neg h, if_neg (by omega)]; omega
abbrev rJ (l : List Jb) (i : Nat) : Jb := rd_T45 l (i : Int)
/-- What is left, of the jobs that are due by d and not released ahead of s (or: whose release lies behind). -/
def dem (l : List Jb) (t : Int) (left : List Int) (s d : Int) : Int := sumN l.length fun i => if (s = t ∨ s ≤ (rJ l i).f1) ∧ (rJ l i).f2 ≤ d then rd left (i : Int) else 0
def inv (l : List Jb) (t : Int) (left : List Int) : Prop := (∀ x ∈ left, 0 ≤ x) ∧ left.length = l.length ∧ ∀ s d, t ≤ s → s ≤ d → dem l t left s d ≤ d - s
theorem left_ge {l : List Jb} {t : Int} {left : List Int} (h : inv l t left) (i : Nat) (hi : i < l.length) : 0 ≤ rd left (i : Int) := h.1 _ (rd_mem left _ (by omega) (by rw [h.2.1]; omega))
/-- At its deadline nothing is left of a job. -/
theorem inv_due {l : List Jb} {t : Int} {left : List Int} (h : inv l t left) (k : Nat) (hk : k < l.length) (hd : (rJ l k).f2 = t) : rd left (k : Int) ≤ 0 := by
 have h1 := h.2.2 t t (Int.le_refl _) (Int.le_refl _)
 have h2 := sumN_one (fun i => if i < l.length ∧ (t = t ∨ t ≤ (rJ l i).f1) ∧ (rJ l i).f2 ≤ t then rd left (i : Int) else 0) (fun i => by
  split
  ·rename_i hh
   exact left_ge h i hh.1
  ·exact Int.le_refl _) l.length k hk
 rw [if_pos ⟨hk, .inl rfl, by omega⟩] at h2
 have h3 : dem l t left t t = sumN l.length (fun i => if i < l.length ∧ (t = t ∨ t ≤ (rJ l i).f1) ∧ (rJ l i).f2 ≤ t then rd left (i : Int) else 0) := by
  refine sumN_congr _ _ _ (fun i hi => ?_)
  simp [hi]
 omega
/-- Who is picked: none that may, or the first by deadline. -/
theorem pick_none {p : Int → Bool} : ∀ (o : List Int) (k : Nat), firstE p o k < 0 → ∀ i ∈ o, p i = false
 | [], _, _, i, h => by cases h
 | x :: o, k, hf, i, h => by
  simp only [firstE] at hf
  split at hf
  ·omega
  ·rename_i hx
   rcases List.mem_cons.1 h with rfl | h
   ·cases hh : p i with | false => rfl | true => exact absurd hh hx
   ·exact pick_none o (k + 1) hf i h
theorem pick_first {p : Int → Bool} (key : Int → Int) : ∀ (o : List Int) (k : Nat), o.Pairwise (fun a b => key a ≤ key b) → 0 ≤ firstE p o k → ∀ i ∈ o, p i = true → key (rd o (firstE p o k - k)) ≤ key i
 | [], k, _, hf, i, h, _ => by cases h
 | x :: o, k, hs, hf, i, h, hp => by
  have hc := List.pairwise_cons.1 hs
  simp only [firstE] at hf ⊢
  split at hf
  ·rename_i hx
   rw [if_pos hx, Int.sub_self]
   show key x ≤ key i
   rcases List.mem_cons.1 h with rfl | h
   ·exact Int.le_refl _
   ·exact hc.1 i h
  ·rename_i hx
   rw [if_neg hx]
   rcases List.mem_cons.1 h with rfl | h
   ·exact absurd hp hx
   ·have ih := pick_first key o (k + 1) hc.2 hf i h hp
    have hb := firstE_bd p o (k + 1)
    have hb := (hb.2 hf).1
    generalize firstE p o (k + 1) = r at *
    have : rd (x :: o) (r - k) = rd o (r - ((k + 1 : Nat) : Int)) := by
     unfold rd
     rw [show (r - (k : Int)).toNat = (r - ((k + 1 : Nat) : Int)).toNat + 1 by omega]
     rfl
    rw [this]
    exact ih
theorem ordD_sorted (l : List Jb) : (nI (ordD l)).Pairwise (fun a b => (rd_T45 l a).f2 ≤ (rd_T45 l b).f2) := by
 unfold nI ordD
 rw [List.pairwise_map]
 refine List.Pairwise.imp ?_ (srt_sorted (keyD l) (List.range l.length))
 intro a b h
 have := of_decide_eq_true h
 unfold keyD at this
 omega
theorem ordD_all (l : List Jb) (i : Nat) (hi : i < l.length) : (i : Int) ∈ nI (ordD l) :=
 List.mem_map.2 ⟨i, (srt_perm _ _).mem_iff.2 (List.mem_range.2 hi), rfl⟩
theorem rd_set_ne (t : List Int) (i j : Nat) (v : Int) (h : i ≠ j) : rd (t.set j v) (i : Int) = rd t (i : Int) := by
 unfold rd
 rw [Int.toNat_natCast, List.getD_eq_getElem?_getD, List.getD_eq_getElem?_getD, List.getElem?_set_ne (by omega)]
theorem rd_set_eq (t : List Int) (j : Nat) (v : Int) (h : j < t.length) : rd (t.set j v) (j : Int) = v := by
 unfold rd
 rw [Int.toNat_natCast, List.getD_eq_getElem?_getD, List.getElem?_set_self h, Option.getD_some]
theorem may_iff (l : List Jb) (t : Int) (left : List Int) (i : Nat) : mayE l t left (i : Int) = true ↔ (rJ l i).f1 ≤ t ∧ 0 < rd left (i : Int) := by
 unfold mayE
 rw [Bool.and_eq_true, decide_eq_true_iff, decide_eq_true_iff]
theorem inv_idle {l : List Jb} {t : Int} {left : List Int} (h : inv l t left) (hn : ∀ i, i < l.length → mayE l t left (i : Int) = false) : inv l (t + 1) left := by
 refine ⟨h.1, h.2.1, fun s d hs hd => ?_⟩
 refine Int.le_trans (sumN_le _ (fun i => if (s = t ∨ s ≤ (rJ l i).f1) ∧ (rJ l i).f2 ≤ d then rd left (i : Int) else 0) l.length (fun i hi => ?_)) (h.2.2 s d (by omega) hd)
 have h0 := left_ge h i hi
 have hm : ¬ ((rJ l i).f1 ≤ t ∧ 0 < rd left (i : Int)) := fun hh => by
  have := (may_iff l t left i).2 hh
  rw [hn i hi] at this
  cases this
 split <;> split <;> omega
theorem inv_run {l : List Jb} {t : Int} {left : List Int} (h : inv l t left) (j : Nat) (hj : j < l.length) (hm : mayE l t left (j : Int) = true) (hf : ∀ i, i < l.length → mayE l t left (i : Int) = true → (rJ l j).f2 ≤ (rJ l i).f2) :
  inv l (t + 1) (left.set j (rd left (j : Int) - 1)) := by
 have hjl : j < left.length := by rw [h.2.1]; exact hj
 have hmj := (may_iff l t left j).1 hm
 have hle : ∀ i : Nat, rd (left.set j (rd left (j : Int) - 1)) (i : Int) ≤ rd left (i : Int) := fun i => by
  by_cases e : i = j
  ·subst e; rw [rd_set_eq _ _ _ hjl]; omega
  ·rw [rd_set_ne _ _ _ _ e]; exact Int.le_refl _
 have hpos : ∀ x ∈ left.set j (rd left (j : Int) - 1), 0 ≤ x := fun x hx => by
  rcases List.mem_or_eq_of_mem_set hx with hx | rfl
  ·exact h.1 x hx
  ·omega
 have hge : ∀ i : Nat, i < l.length → 0 ≤ rd (left.set j (rd left (j : Int) - 1)) (i : Int) := fun i hi => hpos _ (rd_mem _ _ (by omega) (by rw [List.length_set, h.2.1]; omega))
 refine ⟨hpos, by rw [List.length_set]; exact h.2.1, fun s d hs hd => ?_⟩
 by_cases hq : s = t + 1 ∧ (rJ l j).f2 ≤ d
 ·obtain ⟨rfl, hq⟩ := hq
  have h1 := h.2.2 t d (Int.le_refl _) (by omega)
  have h2 := sumN_at (fun i => if (t = t ∨ t ≤ (rJ l i).f1) ∧ (rJ l i).f2 ≤ d then rd left (i : Int) else 0) (fun i => if (t + 1 = t + 1 ∨ t + 1 ≤ (rJ l i).f1) ∧ (rJ l i).f2 ≤ d then rd (left.set j (rd left (j : Int) - 1)) (i : Int) else 0) j (-1) (by
    rw [if_pos ⟨.inl rfl, hq⟩, if_pos ⟨.inl rfl, hq⟩, rd_set_eq _ _ _ hjl]; omega) (fun i hi => by
    rw [rd_set_ne _ _ _ _ hi]
    by_cases hd2 : (rJ l i).f2 ≤ d
    ·rw [if_pos ⟨.inl rfl, hd2⟩, if_pos ⟨.inl rfl, hd2⟩]
    ·rw [if_neg (fun hh => hd2 hh.2), if_neg (fun hh => hd2 hh.2)]) l.length
  rw [if_pos hj] at h2
  unfold dem at h1 ⊢
  omega
 ·refine Int.le_trans (sumN_le _ (fun i => if (s = t ∨ s ≤ (rJ l i).f1) ∧ (rJ l i).f2 ≤ d then rd left (i : Int) else 0) l.length (fun i hi => ?_)) (h.2.2 s d (by omega) hd)
  have h0 := left_ge h i hi
  have h3 := hle i
  by_cases c1 : (s = t ∨ s ≤ (rJ l i).f1) ∧ (rJ l i).f2 ≤ d
  ·rw [if_pos c1]
   split <;> omega
  ·rw [if_neg c1]
   split
   ·rename_i c2
    have hs2 : s = t + 1 ∧ (rJ l i).f1 < s := ⟨by rcases c2.1 with e | e; exact e; exact absurd ⟨.inr e, c2.2⟩ c1, by
     by_cases e : s ≤ (rJ l i).f1
     ·exact absurd ⟨.inr e, c2.2⟩ c1
     ·omega⟩
    by_cases hz : 0 < rd left (i : Int)
    ·have := hf i hi ((may_iff l t left i).2 ⟨by omega, hz⟩)
     exact absurd ⟨hs2.1, by omega⟩ hq
    ·omega
   ·exact Int.le_refl _
/-- Each has what it needs by its deadline. -/
theorem edf_meets (l : List Jb) : ∀ (f : Nat) (t : Int) (left : List Int), inv l t left → ∀ k, k < l.length → t ≤ (rJ l k).f2 → (rJ l k).f2 ≤ t + f →
  rd left (k : Int) ≤ (cntN (k : Int) ((goE l (nI (ordD l)) f t left).take ((rJ l k).f2 - t).toNat) : Int)
 | 0, t, left, h, k, hk, h0, h1 => by
  have := inv_due h k hk (by omega)
  omega
 | f + 1, t, left, h, k, hk, h0, h1 => by
  by_cases he : (rJ l k).f2 = t
  ·have := inv_due h k hk he
   omega
  obtain ⟨m, hm⟩ : ∃ m : Nat, ((rJ l k).f2 - t).toNat = m + 1 := ⟨((rJ l k).f2 - t).toNat - 1, by omega⟩
  have hm2 : ((rJ l k).f2 - (t + 1)).toNat = m := by omega
  rw [hm]
  simp only [goE]
  have hb := firstE_bd (mayE l t left) (nI (ordD l)) 0
  split
  ·rename_i hneg
   have ih := edf_meets l f (t + 1) left (inv_idle h fun i hi => pick_none _ 0 hneg _ (ordD_all l i hi)) k hk (by omega) (by omega)
   rw [hm2] at ih
   rw [List.take_succ_cons]
   unfold cntN at ih ⊢
   rw [List.countP_cons]
   omega
  ·rename_i hneg
   have hb2 := hb.2 (by omega)
   rw [show firstE (mayE l t left) (nI (ordD l)) 0 - ((0 : Nat) : Int) = firstE (mayE l t left) (nI (ordD l)) 0 by omega] at hb2
   have hin := ordD_in l _ (rd_mem (nI (ordD l)) (firstE (mayE l t left) (nI (ordD l)) 0) (by omega) (by omega))
   have hfi : ∀ i, i < l.length → mayE l t left (i : Int) = true → (rd_T45 l (rd (nI (ordD l)) (firstE (mayE l t left) (nI (ordD l)) 0))).f2 ≤ (rJ l i).f2 := fun i hi hp => by
    have := pick_first (fun i => (rd_T45 l i).f2) (nI (ordD l)) 0 (ordD_sorted l) (by omega) (i : Int) (ordD_all l i hi) hp
    rw [show firstE (mayE l t left) (nI (ordD l)) 0 - ((0 : Nat) : Int) = firstE (mayE l t left) (nI (ordD l)) 0 by omega] at this
    exact this
   obtain ⟨j, hj⟩ : ∃ j : Nat, rd (nI (ordD l)) (firstE (mayE l t left) (nI (ordD l)) 0) = (j : Int) := ⟨(rd (nI (ordD l)) (firstE (mayE l t left) (nI (ordD l)) 0)).toNat, by omega⟩
   rw [hj] at hin hfi hb2 ⊢
   rw [Int.toNat_natCast]
   have hjl : j < l.length := by omega
   have hI := inv_run h j hjl hb2.2.2 hfi
   have ih := edf_meets l f (t + 1) _ hI k hk (by omega) (by omega)
   rw [hm2] at ih
   rw [List.take_succ_cons]
   have hjl2 : j < left.length := by rw [h.2.1]; exact hjl
   unfold cntN at ih ⊢
   rw [List.countP_cons]
   by_cases e : k = j
   ·subst e
    rw [rd_set_eq _ _ _ hjl2] at ih
    simp only [decide_true, if_true]
    omega
   ·rw [rd_set_ne _ _ _ _ e] at ih
    rw [if_neg (by simp; omega)]
    omega

end Go.Proofs.YtobkfbkhcghaeaaGreatDoor.PRv
namespace Go.Proofs.YtobkfbkhcghaeaaGreatDoor.PRv
open Go.RowKit Go.Proofs.YtobkfbkhcghaeaaGreatDoor.PRv Go.Proofs.YtobkfbkhcghaeaaGreatDoorW.PrintWords Go.Proofs.YtobkfbkhcghaeaaGreatDoorW.PrintLast Go.Proofs.YtobkfbkhcghaeaaGreatDoorW.PrintMore 
set_option linter.unusedVariables false
set_option linter.unusedSimpArgs false

theorem sumN_point (f : Nat → Int) (n j : Nat) (hj : j < n) (ho : ∀ i, i < n → i ≠ j → f i = 0) : sumN n f = f j := by
 induction n with
 | zero => omega
 | succ n ih =>
  simp only [sumN]
  by_cases e : j = n
  ·subst e
   rw [sumN_congr f (fun _ => 0) j (fun i hi => ho i (by omega) (by omega)), sumN_zero]
   omega
  ·rw [ih (by omega) (fun i hi hne => ho i (by omega) hne), ho n (by omega) (by omega)]
   omega
def inj (is : List Int) : Prop := ∀ p q : Nat, p < is.length → q < is.length → rd is (p : Int) = rd is (q : Int) → p = q
theorem hit_le (is : List Int) (hi : inj is) (x : Int) : sumN is.length (fun p => if x = rd is (p : Int) then 1 else 0) ≤ 1 := by
 by_cases h : ∃ j, j < is.length ∧ x = rd is (j : Int)
 ·obtain ⟨j, hj, he⟩ := h
  rw [sumN_point _ _ j hj (fun i hil hne => if_neg (fun e => hne (hi i j hil hj (by rw [← e, he])))), if_pos he]
  exact Int.le_refl _
 ·rw [sumN_congr _ (fun _ => 0) _ (fun i hil => if_neg (fun e => h ⟨i, hil, e⟩)), sumN_zero]
  decide
theorem cnt_sum (is : List Int) (hi : inj is) : ∀ w : List Int, sumN is.length (fun p => (cntN (rd is (p : Int)) w : Int)) ≤ w.length
 | [] => by
  rw [sumN_congr (fun p => (cntN (rd is (p : Int)) [] : Int)) (fun _ => 0) _ (fun i _ => rfl), sumN_zero]
  exact Int.le_refl _
 | x :: w => by
  have ih := cnt_sum is hi w
  have h1 := hit_le is hi x
  have e : sumN is.length (fun p => (cntN (rd is (p : Int)) (x :: w) : Int)) = sumN is.length (fun p => (cntN (rd is (p : Int)) w : Int) + if x = rd is (p : Int) then 1 else 0) := by
   refine sumN_congr _ _ _ (fun p _ => ?_)
   unfold cntN
   rw [List.countP_cons]
   by_cases c : x = rd is (p : Int)
   ·rw [if_pos (by simpa using c), if_pos c]; omega
   ·rw [if_neg (by simpa using c), if_neg c]; omega
  rw [e, sumN_add, List.length_cons]
  omega
/-- Nobody runs ahead of its release. -/
def okRel (rel : Int → Int) (t : List Int) : Prop := ∀ p : Nat, p < t.length → rd t (p : Int) ≠ -1 → rel (rd t (p : Int)) ≤ (p : Int)
theorem cnt_none {rel : Int → Int} {t : List Int} (h : okRel rel t) (i : Int) (hi : i ≠ -1) (s : Nat) (hs : (s : Int) ≤ rel i) : cntN i (t.take s) = 0 := by
 unfold cntN
 rw [List.countP_eq_zero]
 intro x hx
 obtain ⟨p, hp, rfl⟩ := List.mem_iff_getElem.1 hx
 rw [List.length_take] at hp
 rw [List.getElem_take]
 simp only [decide_eq_true_eq]
 intro e
 have hr : rd t (p : Int) = i := by
  unfold rd
  rw [Int.toNat_natCast, List.getD_eq_getElem?_getD, List.getElem?_eq_getElem (by omega), Option.getD_some]
  exact e
 have := h p (by omega) (by rw [hr]; exact hi)
 rw [hr] at this
 omega
theorem cnt_window {rel : Int → Int} {t : List Int} (h : okRel rel t) (i : Int) (hi : i ≠ -1) (s d e : Nat) (hs : (s : Int) ≤ rel i) (hd : e ≤ d) : cntN i (t.take e) ≤ cntN i ((t.take d).drop s) := by
 have h0 := cnt_none h i hi s hs
 have h1 : cntN i (t.take e) ≤ cntN i (t.take d) := by
  unfold cntN
  refine List.Sublist.countP_le ?_
  rw [show t.take e = (t.take d).take e by rw [List.take_take]; congr 1; omega]
  exact List.take_sublist _ _
 have h2 : cntN i (t.take d) = cntN i ((t.take d).take s) + cntN i ((t.take d).drop s) := by
  unfold cntN
  rw [← List.countP_append, List.take_append_drop]
 have h3 : cntN i ((t.take d).take s) = 0 := by
  by_cases c : s ≤ d
  ·rw [List.take_take, show min s d = s by omega]
   exact h0
  ·rw [List.take_take, show min s d = d by omega]
   exact cnt_none h i hi d (by omega)
 omega
/-- A trace that serves these by their deadlines bounds what they ask for. -/
theorem demand_of {js : List Jb} {is : List Int} (hlen : js.length = is.length) (hinj : inj is) (hneg : ∀ p : Nat, p < is.length → rd is (p : Int) ≠ -1) {rel : Int → Int} {t : List Int} (hrel : okRel rel t) (hr : ∀ p : Nat, p < is.length → rel (rd is (p : Int)) = (rJ js p).f1)
  (h0 : ∀ p : Nat, p < is.length → 0 ≤ (rJ js p).f1 ∧ 0 ≤ (rJ js p).f2) {need : List Int} (hn : ∀ x ∈ need, 0 ≤ x) (hnl : need.length = js.length) (hc : ∀ p : Nat, p < is.length → rd need (p : Int) ≤ (cntN (rd is (p : Int)) (t.take (rJ js p).f2.toNat) : Int)) : inv js 0 need := by
 refine ⟨hn, hnl, fun s d hs hd => ?_⟩
 obtain ⟨s, rfl⟩ : ∃ n : Nat, s = (n : Int) := ⟨s.toNat, by omega⟩
 obtain ⟨d, rfl⟩ : ∃ n : Nat, d = (n : Int) := ⟨d.toNat, by omega⟩
 have h1 := cnt_sum is hinj ((t.take d).drop s)
 have h2 : ((t.take d).drop s).length ≤ d - s := by rw [List.length_drop, List.length_take]; omega
 have h3 : dem js 0 need (s : Int) (d : Int) ≤ sumN is.length (fun p => (cntN (rd is (p : Int)) ((t.take d).drop s) : Int)) := by
  unfold dem
  rw [hlen]
  refine sumN_le _ _ _ (fun p hp => ?_)
  split
  ·rename_i c
   have hp0 := h0 p hp
   have := cnt_window hrel (rd is (p : Int)) (hneg p hp) s d (rJ js p).f2.toNat (by rw [hr p hp]; omega) (by omega)
   have := hc p hp
   omega
  ·omega
 omega
/-- The trace of a run by deadlines. -/
theorem run_rel (l : List Jb) : ∀ (f : Nat) (t : Int) (left : List Int) (p : Nat), p < (goE l (nI (ordD l)) f t left).length → rd (goE l (nI (ordD l)) f t left) (p : Int) ≠ -1 → (rd_T45 l (rd (goE l (nI (ordD l)) f t left) (p : Int))).f1 ≤ t + p
 | 0, t, left, p, hp, _ => by simp [goE] at hp
 | f + 1, t, left, p, hp, hne => by
  have hb := firstE_bd (mayE l t left) (nI (ordD l)) 0
  simp only [goE] at hp hne ⊢
  split at hne
  ·rename_i hneg
   rw [if_pos hneg] at hp ⊢
   cases p with
   | zero => exact absurd rfl hne
   | succ p =>
    have e : ∀ (x : Int) (w : List Int), rd (x :: w) ((p + 1 : Nat) : Int) = rd w (p : Int) := fun x w => by unfold rd; rw [Int.toNat_natCast, Int.toNat_natCast]; rfl
    rw [e] at hne ⊢
    have := run_rel l f (t + 1) left p (by simpa using hp) hne
    omega
  ·rename_i hneg
   rw [if_neg hneg] at hp ⊢
   cases p with
   | zero =>
    have hb2 := (hb.2 (by omega)).2.2
    rw [show firstE (mayE l t left) (nI (ordD l)) 0 - ((0 : Nat) : Int) = firstE (mayE l t left) (nI (ordD l)) 0 by omega] at hb2
    obtain ⟨j, hj⟩ : ∃ j, j = rd (nI (ordD l)) (firstE (mayE l t left) (nI (ordD l)) 0) := ⟨_, rfl⟩
    rw [← hj] at hb2 ⊢
    unfold mayE at hb2
    rw [Bool.and_eq_true, decide_eq_true_iff] at hb2
    have e : ∀ (x : Int) (w : List Int), rd (x :: w) ((0 : Nat) : Int) = x := fun x w => rfl
    rw [e]
    have := hb2.1
    omega
   | succ p =>
    have e : ∀ (x : Int) (w : List Int), rd (x :: w) ((p + 1 : Nat) : Int) = rd w (p : Int) := fun x w => by unfold rd; rw [Int.toNat_natCast, Int.toNat_natCast]; rfl
    rw [e] at hne ⊢
    have := run_rel l f (t + 1) _ p (by simpa using hp) hne
    omega

end Go.Proofs.YtobkfbkhcghaeaaGreatDoor.PRv
namespace Go.Proofs.YtobkfbkhcghaeaaGreatDoor.PRv
open Go.RowKit Go.Proofs.YtobkfbkhcghaeaaGreatDoor.PRv Go.Proofs.YtobkfbkhcghaeaaGreatDoorW.PrintWords Go.Proofs.YtobkfbkhcghaeaaGreatDoorW.PrintLast Go.Proofs.YtobkfbkhcghaeaaGreatDoorW.PrintMore 
set_option linter.unusedVariables false
set_option linter.unusedSimpArgs false

theorem rdJ_get (js : List Jb) (p : Nat) (hp : p < js.length) : rd_T45 js (p : Int) = js[p] := by
 unfold rd_T45
 rw [Int.toNat_natCast, List.getD_eq_getElem?_getD, List.getElem?_eq_getElem hp, Option.getD_some]
theorem rd_get (t : List Int) (p : Nat) (hp : p < t.length) : rd t (p : Int) = t[p] := by
 unfold rd
 rw [Int.toNat_natCast, List.getD_eq_getElem?_getD, List.getElem?_eq_getElem hp, Option.getD_some]
theorem rJ_at (l : List Jb) (g : Jb → Jb) (is : List Int) (p : Nat) (hp : p < is.length) : rJ (is.map fun i => g (rd_T45 l i)) p = g (rd_T45 l (rd is (p : Int))) := by
 rw [rd_get is p hp]
 show rd_T45 _ (p : Int) = _
 rw [rdJ_get _ p (by rw [List.length_map]; exact hp), List.getElem_map]
theorem rd_need (js : List Jb) (nd : Jb → Int) (p : Nat) (hp : p < js.length) : rd (js.map nd) (p : Int) = nd (rJ js p) := by
 rw [rd_get _ p (by rw [List.length_map]; exact hp), List.getElem_map]
 show _ = nd (rd_T45 js (p : Int))
 rw [rdJ_get js p hp]
theorem mod_good {x : Jb} (h : goodJ x = true) : goodJ (modJ x) = true := by
 have hb := goodJ_b h
 unfold goodJ goodJB at h ⊢
 rw [Bool.and_eq_true] at h ⊢
 refine ⟨h.1, decide_eq_true ?_⟩
 unfold modJ
 dsimp only
 omega
theorem mod_chg {x : Jb} (h : goodJ x = true) : chg (modJ x) = x.f4 := by
 unfold chg
 rw [if_pos (mod_good h)]
 show x.f4 + 0 = x.f4
 omega
theorem mods_all {l : List Jb} {is : List Int} (ha : allJ l = true) (hi : ∀ i ∈ is, 0 ≤ i ∧ i < (l.length : Int)) (hn : is.length ≤ 200) : allJ (is.map fun i => modJ (rd_T45 l i)) = true := by
 unfold allJ
 rw [Bool.and_eq_true, List.length_map, List.all_eq_true]
 refine ⟨decide_eq_true hn, fun x hx => ?_⟩
 obtain ⟨i, hm, rfl⟩ := List.mem_map.1 hx
 exact mod_good (allJ_at ha i (hi i hm).1 (hi i hm).2)
theorem all_good {l : List Jb} (h : allJ l = true) : l.all goodJ = true := by unfold allJ at h; rw [Bool.and_eq_true] at h; exact h.2
theorem all_rJ {l : List Jb} (h : allJ l = true) (p : Nat) (hp : p < l.length) : goodJ (rJ l p) = true := allJ_at h (p : Int) (by omega) (by omega)
theorem runE_is {js : List Jb} (ha : js.all goodJ = true) (T : Int) (h0 : 0 ≤ T) (nd : Jb → Int) : runE js T nd = goE js (nI (ordD js)) (min T 10000).toNat 0 (js.map nd) := by
 unfold runE
 rw [if_pos ⟨ha, h0⟩]
theorem meets_inv {js : List Jb} (ha : allJ js = true) (hv : inv js 0 (js.map chg)) : meetsJ js = true := by
 unfold meetsJ
 rw [ha, Bool.true_and, List.all_eq_true]
 intro p hp
 have hpl := List.mem_range.1 hp
 have hg := goodJ_b (all_rJ ha p hpl)
 have hb := endJ_b js
 have hd := endJ_ge ha _ (rdJ_mem js (p : Int) (by omega) (by omega))
 have := edf_meets js (min (endJ js) 10000).toNat 0 (js.map chg) hv p hpl (by omega) (by show (rd_T45 js (p : Int)).f2 ≤ _; omega)
 rw [rd_need _ _ p hpl, Int.sub_zero] at this
 refine decide_eq_true ?_
 rw [runE_is (all_good ha) _ hb.1]
 exact this
theorem nI_range (n p : Nat) (hp : p < n) : rd (nI (List.range n)) (p : Int) = (p : Int) := by
 rw [rd_get _ p (by rw [nI_len, List.length_range]; exact hp)]
 unfold nI
 rw [List.getElem_map, List.getElem_range]
theorem inv_meets {js : List Jb} (h : meetsJ js = true) : inv js 0 (js.map chg) := by
 unfold meetsJ at h
 rw [Bool.and_eq_true, List.all_eq_true] at h
 obtain ⟨ha, h⟩ := h
 have hb := endJ_b js
 have hl : (nI (List.range js.length)).length = js.length := by rw [nI_len, List.length_range]
 refine demand_of (is := nI (List.range js.length)) (rel := fun i => (rd_T45 js i).f1) (t := runE js (endJ js) chg) hl.symm ?_ ?_ ?_ ?_ ?_ ?_ (by rw [List.length_map]) ?_
 ·intro p q hp hq e
  rw [hl] at hp hq
  rw [nI_range _ p hp, nI_range _ q hq] at e
  omega
 ·intro p hp
  rw [hl] at hp
  rw [nI_range _ p hp]
  omega
 ·intro p hp hne
  rw [runE_is (all_good ha) _ hb.1] at hp hne ⊢
  have := run_rel js _ 0 (js.map chg) p hp hne
  dsimp only
  omega
 ·intro p hp
  rw [hl] at hp
  rw [nI_range _ p hp]
 ·intro p hp
  rw [hl] at hp
  have := goodJ_b (all_rJ ha p hp)
  omega
 ·intro x hx
  obtain ⟨y, _, rfl⟩ := List.mem_map.1 hx
  exact (chg_bd y).1
 ·intro p hp
  rw [hl] at hp
  rw [rd_need _ _ p hp, nI_range _ p hp]
  exact of_decide_eq_true (h p (List.mem_range.2 hp))
-- a good trace
theorem good_tick (l : List Jb) : ∀ (t ran : List Int) (k : Nat), goodL l ran t k = true → ∀ p : Nat, p < t.length → rd t (p : Int) ≠ -1 → 0 ≤ rd t (p : Int) ∧ rd t (p : Int) < (l.length : Int) ∧ (rd_T45 l (rd t (p : Int))).f1 ≤ ((k + p : Nat) : Int)
 | [], _, _, _, p, hp, _ => by simp at hp
 | x :: t, ran, k, h, p, hp, hne => by
  unfold goodL at h
  cases p with
  | zero =>
   have e : rd (x :: t) ((0 : Nat) : Int) = x := rfl
   rw [e] at hne ⊢
   rw [if_neg hne] at h
   simp only [Bool.and_eq_true, decide_eq_true_eq] at h
   omega
  | succ p =>
   have e : rd (x :: t) ((p + 1 : Nat) : Int) = rd t (p : Int) := by unfold rd; rw [Int.toNat_natCast, Int.toNat_natCast]; rfl
   rw [e] at hne ⊢
   rw [show k + (p + 1) = (k + 1) + p by omega]
   by_cases c : x = -1
   ·rw [if_pos c] at h
    exact good_tick l t ran (k + 1) h p (by simpa using hp) hne
   ·rw [if_neg c] at h
    simp only [Bool.and_eq_true] at h
    exact good_tick l t _ (k + 1) h.2 p (by simpa using hp) hne
theorem done_cnt (i : Int) : ∀ (t : List Int) (left : Int) (k a : Nat), 1 ≤ left → doneL i left t k = some a → k < a ∧ left ≤ (cntN i (t.take (a - k)) : Int)
 | [], _, _, _, _, h => by simp [doneL] at h
 | x :: t, left, k, a, h1, h => by
  unfold doneL at h
  by_cases c : x = i
  ·rw [if_pos c] at h
   by_cases c2 : left - 1 = 0
   ·rw [if_pos c2] at h
    obtain rfl := Option.some.inj h
    refine ⟨by omega, ?_⟩
    rw [show k + 1 - k = 0 + 1 by omega, List.take_succ_cons]
    unfold cntN
    rw [List.countP_cons, if_pos (by simpa using c)]
    omega
   ·rw [if_neg c2] at h
    have ih := done_cnt i t (left - 1) (k + 1) a (by omega) h
    refine ⟨by omega, ?_⟩
    rw [show a - k = (a - (k + 1)) + 1 by omega, List.take_succ_cons]
    unfold cntN at ih ⊢
    rw [List.countP_cons, if_pos (by simpa using c)]
    omega
  ·rw [if_neg c, if_neg (by omega)] at h
   have ih := done_cnt i t left (k + 1) a h1 h
   refine ⟨by omega, ?_⟩
   rw [show a - k = (a - (k + 1)) + 1 by omega, List.take_succ_cons]
   unfold cntN at ih ⊢
   rw [List.countP_cons]
   omega
theorem done_of (i : Int) : ∀ (t : List Int) (left : Int) (k m : Nat), 1 ≤ left → left ≤ (cntN i (t.take m) : Int) → ∃ a, doneL i left t k = some a ∧ a ≤ k + m
 | [], left, k, m, h1, h => by
  rw [List.take_nil] at h
  have : (cntN i [] : Int) = 0 := rfl
  omega
 | x :: t, left, k, m, h1, h => by
  cases m with
  | zero =>
   rw [List.take_zero] at h
   have : (cntN i [] : Int) = 0 := rfl
   omega
  | succ m =>
   rw [List.take_succ_cons] at h
   unfold cntN at h
   rw [List.countP_cons] at h
   unfold doneL
   by_cases c : x = i
   ·rw [if_pos c]
    rw [if_pos (by simpa using c)] at h
    by_cases c2 : left - 1 = 0
    ·rw [if_pos c2]
     exact ⟨_, rfl, by omega⟩
    ·rw [if_neg c2]
     obtain ⟨a, h2, h3⟩ := done_of i t (left - 1) (k + 1) m (by omega) (by unfold cntN; omega)
     exact ⟨a, h2, by omega⟩
   ·rw [if_neg c, if_neg (by omega)]
    rw [if_neg (by simpa using c)] at h
    obtain ⟨a, h2, h3⟩ := done_of i t left (k + 1) m h1 (by unfold cntN; omega)
    exact ⟨a, h2, by omega⟩
theorem met_cnt {l : List Jb} {t : List Int} {i : Int} (h : metJ l t i = true) : 0 ≤ i ∧ i < (l.length : Int) ∧ (rd_T45 l i).f4 ≤ (rd_T45 l i).f3 ∧ workJ (rd_T45 l i) = (rd_T45 l i).f4 ∧ (rd_T45 l i).f4 ≤ (cntN i (t.take (rd_T45 l i).f2.toNat) : Int) := by
 unfold metJ at h
 cases hd : doneJ l t i with
 | none => rw [hd] at h; cases h
 | some a =>
  rw [hd] at h
  simp only [Bool.and_eq_true, decide_eq_true_eq] at h
  have hin := doneJ_in hd
  have hg := allJ_at hin.2.2 i hin.1 hin.2.1
  have hw : workJ (rd_T45 l i) = (rd_T45 l i).f4 := by unfold workJ; rw [if_pos hg, if_pos h.2]
  unfold doneJ at hd
  rw [if_pos hin] at hd
  have h3 := done_cnt i t _ 0 a (workJ_pos hg) hd
  refine ⟨hin.1, hin.2.1, h.2, hw, ?_⟩
  rw [← hw]
  have h4 : cntN i (t.take (a - 0)) ≤ cntN i (t.take (rd_T45 l i).f2.toNat) := by
   unfold cntN
   refine List.Sublist.countP_le ?_
   rw [show t.take (a - 0) = (t.take (rd_T45 l i).f2.toNat).take a by rw [List.take_take]; congr 1; omega]
   exact List.take_sublist _ _
  omega
theorem met_of {l : List Jb} {t : List Int} {i : Int} (ha : allJ l = true) (h0 : 0 ≤ i) (h1 : i < (l.length : Int)) (hr : (rd_T45 l i).f4 ≤ (rd_T45 l i).f3) (hc : workJ (rd_T45 l i) ≤ (cntN i (t.take (rd_T45 l i).f2.toNat) : Int)) : metJ l t i = true := by
 have hg := allJ_at ha i h0 h1
 have hb := goodJ_b hg
 obtain ⟨a, h2, h3⟩ := done_of i t (workJ (rd_T45 l i)) 0 _ (workJ_pos hg) hc
 unfold metJ doneJ
 rw [if_pos ⟨h0, h1, ha⟩, h2]
 simp only [Bool.and_eq_true, decide_eq_true_eq]
 omega
/-- Whom a good trace serves, can all be met. -/
theorem met_trace {l : List Jb} {t is : List Int} (hg : goodT l t = true) (hi : inj is) (hn : is.length ≤ 200) (hm : ∀ i ∈ is, metJ l t i = true) : metS l is = true := by
 unfold goodT at hg
 simp only [Bool.and_eq_true] at hg
 have ha := hg.1.1
 have hin : ∀ i ∈ is, 0 ≤ i ∧ i < (l.length : Int) := fun i h => ⟨(met_cnt (hm i h)).1, (met_cnt (hm i h)).2.1⟩
 have hmem : ∀ p : Nat, p < is.length → rd is (p : Int) ∈ is := fun p hp => rd_mem is _ (by omega) (by omega)
 unfold metS
 refine meets_inv (mods_all ha hin hn) ?_
 refine demand_of (is := is) (rel := fun i => (rd_T45 l i).f1) (t := t) (by rw [List.length_map]) hi ?_ ?_ ?_ ?_ ?_ (by rw [List.length_map]) ?_
 ·intro p hp
  have := (hin _ (hmem p hp)).1
  omega
 ·intro p hp hne
  have := (good_tick l t _ 0 hg.2 p hp hne).2.2
  dsimp only
  omega
 ·intro p hp
  rw [rJ_at l modJ is p hp]
  rfl
 ·intro p hp
  rw [rJ_at l modJ is p hp]
  have := goodJ_b (mod_good (allJ_at ha _ (hin _ (hmem p hp)).1 (hin _ (hmem p hp)).2))
  omega
 ·intro x hx
  obtain ⟨y, _, rfl⟩ := List.mem_map.1 hx
  exact (chg_bd y).1
 ·intro p hp
  rw [rd_need _ _ p (by rw [List.length_map]; exact hp), rJ_at l modJ is p hp, mod_chg (allJ_at ha _ (hin _ (hmem p hp)).1 (hin _ (hmem p hp)).2)]
  exact (met_cnt (hm _ (hmem p hp))).2.2.2.2

end Go.Proofs.YtobkfbkhcghaeaaGreatDoor.PRv
namespace Go.Proofs.YtobkfbkhcghaeaaGreatDoor.PRv
open Go.RowKit Go.Proofs.YtobkfbkhcghaeaaGreatDoor.PRv Go.Proofs.YtobkfbkhcghaeaaGreatDoorW.PrintWords Go.Proofs.YtobkfbkhcghaeaaGreatDoorW.PrintLast Go.Proofs.YtobkfbkhcghaeaaGreatDoorW.PrintMore 
set_option linter.unusedVariables false
set_option linter.unusedSimpArgs false

theorem inv_late {l : List Jb} {t : Int} {left : List Int} (h : inv l t left) (k : Nat) (hk : k < l.length) (hd : (rJ l k).f2 ≤ t) : rd left (k : Int) ≤ 0 := by
 have h1 := h.2.2 t t (Int.le_refl _) (Int.le_refl _)
 have h2 := sumN_one (fun i => if i < l.length ∧ (t = t ∨ t ≤ (rJ l i).f1) ∧ (rJ l i).f2 ≤ t then rd left (i : Int) else 0) (fun i => by
  split
  ·rename_i hh
   exact left_ge h i hh.1
  ·exact Int.le_refl _) l.length k hk
 rw [if_pos ⟨hk, .inl rfl, by omega⟩] at h2
 have h3 : dem l t left t t = sumN l.length (fun i => if i < l.length ∧ (t = t ∨ t ≤ (rJ l i).f1) ∧ (rJ l i).f2 ≤ t then rd left (i : Int) else 0) := by
  refine sumN_congr _ _ _ (fun i hi => ?_)
  simp [hi]
 omega
theorem back_good {l js : List Jb} {ks : List Int} (hks : ∀ p : Nat, p < ks.length → 0 ≤ rd ks (p : Int) ∧ rd ks (p : Int) < (l.length : Int)) (hinj : inj ks) (hlen : js.length = ks.length) (hj : ∀ p : Nat, p < ks.length → rJ js p = rd_T45 l (rd ks (p : Int))) :
  ∀ (f t : Nat) (left ran : List Int), inv js (t : Int) left → ran.length = l.length → (∀ p : Nat, p < ks.length → rd ran (rd ks (p : Int)) + rd left (p : Int) ≤ workJ (rd_T45 l (rd ks (p : Int)))) → goodL l ran (backT ks (goE js (nI (ordD js)) f (t : Int) left)) t = true
 | 0, t, left, ran, _, _, _ => by
  simp only [goE, backT, List.map_nil]
  unfold goodL
  rfl
 | f + 1, t, left, ran, h, hr, hw => by
  have hb := firstE_bd (mayE js t left) (nI (ordD js)) 0
  simp only [goE]
  split
  ·rename_i hneg
   have ih := back_good hks hinj hlen hj f (t + 1) left ran (by
    rw [show ((t + 1 : Nat) : Int) = (t : Int) + 1 by omega]
    exact inv_idle h fun i hi => pick_none _ 0 hneg _ (ordD_all js i hi)) hr hw
   rw [show ((t + 1 : Nat) : Int) = (t : Int) + 1 by omega] at ih
   unfold backT at ih ⊢
   rw [List.map_cons]
   unfold goodL
   rw [if_pos (by unfold bk; rw [if_pos rfl])]
   exact ih
  ·rename_i hneg
   have hb2 := hb.2 (by omega)
   rw [show firstE (mayE js t left) (nI (ordD js)) 0 - ((0 : Nat) : Int) = firstE (mayE js t left) (nI (ordD js)) 0 by omega] at hb2
   have hin := ordD_in js _ (rd_mem (nI (ordD js)) (firstE (mayE js t left) (nI (ordD js)) 0) (by omega) (by omega))
   have hfi : ∀ i, i < js.length → mayE js t left (i : Int) = true → (rd_T45 js (rd (nI (ordD js)) (firstE (mayE js t left) (nI (ordD js)) 0))).f2 ≤ (rJ js i).f2 := fun i hi hp => by
    have := pick_first (fun i => (rd_T45 js i).f2) (nI (ordD js)) 0 (ordD_sorted js) (by omega) (i : Int) (ordD_all js i hi) hp
    rw [show firstE (mayE js t left) (nI (ordD js)) 0 - ((0 : Nat) : Int) = firstE (mayE js t left) (nI (ordD js)) 0 by omega] at this
    exact this
   obtain ⟨j, hj2⟩ : ∃ j : Nat, rd (nI (ordD js)) (firstE (mayE js t left) (nI (ordD js)) 0) = (j : Int) := ⟨(rd (nI (ordD js)) (firstE (mayE js t left) (nI (ordD js)) 0)).toNat, by omega⟩
   rw [hj2] at hin hfi hb2 ⊢
   rw [Int.toNat_natCast]
   have hjl : j < js.length := by omega
   have hjk : j < ks.length := by omega
   have hI := inv_run h j hjl hb2.2.2 hfi
   have hm := (may_iff js t left j).1 hb2.2.2
   have hlate : (t : Int) < (rJ js j).f2 := by
    by_cases c : (rJ js j).f2 ≤ (t : Int)
    ·have := inv_late h j hjl c
     omega
    ·omega
   have hk := hks j hjk
   have hjj := hj j hjk
   have hwj := hw j hjk
   have hjl2 : j < left.length := by rw [h.2.1]; exact hjl
   have ih := back_good hks hinj hlen hj f (t + 1) (left.set j (rd left (j : Int) - 1)) (ran.set (rd ks (j : Int)).toNat (rd ran (rd ks (j : Int)) + 1)) (by
    rw [show ((t + 1 : Nat) : Int) = (t : Int) + 1 by omega]
    exact hI) (by rw [List.length_set]; exact hr) (fun p hp => by
    by_cases e : p = j
    ·subst e
     rw [rd_set_eq _ _ _ hjl2, rd_set ran (rd ks (p : Int)) _ hk.1 (by omega)]
     omega
    ·rw [rd_set_ne _ _ _ _ e]
     have hkp := hks p hp
     have hne : rd ks (p : Int) ≠ rd ks (j : Int) := fun e2 => e (hinj p j hp hjk e2)
     have e3 : rd (ran.set (rd ks (j : Int)).toNat (rd ran (rd ks (j : Int)) + 1)) (rd ks (p : Int)) = rd ran (rd ks (p : Int)) := by
      have := rd_set_ne ran (rd ks (p : Int)).toNat (rd ks (j : Int)).toNat (rd ran (rd ks (j : Int)) + 1) (by omega)
      rw [show (((rd ks (p : Int)).toNat : Nat) : Int) = rd ks (p : Int) by omega] at this
      exact this
     rw [e3]
     exact hw p hp)
   rw [show ((t + 1 : Nat) : Int) = (t : Int) + 1 by omega] at ih
   unfold backT at ih ⊢
   rw [List.map_cons]
   have eb : bk ks (j : Int) = rd ks (j : Int) := by unfold bk; rw [if_neg (by omega)]
   rw [eb]
   unfold goodL
   rw [if_neg (by omega)]
   simp only [Bool.and_eq_true, decide_eq_true_eq]
   rw [hjj] at hm hlate
   refine ⟨⟨⟨⟨⟨hk.1, hk.2⟩, hm.1⟩, hlate⟩, by omega⟩, ih⟩
theorem back_cnt {ks : List Int} (hinj : inj ks) (hk0 : ∀ p : Nat, p < ks.length → rd ks (p : Int) ≠ -1) (p : Nat) (hp : p < ks.length) : ∀ t : List Int, (∀ x ∈ t, x = -1 ∨ 0 ≤ x ∧ x < (ks.length : Int)) → cntN (rd ks (p : Int)) (backT ks t) = cntN (p : Int) t
 | [], _ => rfl
 | x :: t, h => by
  have ih := back_cnt hinj hk0 p hp t (fun y hy => h y (List.mem_cons_of_mem _ hy))
  unfold backT cntN at ih ⊢
  rw [List.map_cons, List.countP_cons, List.countP_cons, ih]
  have hx := h x (List.mem_cons_self ..)
  have e : decide (bk ks x = rd ks (p : Int)) = decide (x = (p : Int)) := by
   rw [decide_eq_decide]
   unfold bk
   rcases hx with rfl | hx
   ·rw [if_pos rfl]
    exact ⟨fun h => (hk0 p hp h.symm).elim, fun h => by omega⟩
   ·rw [if_neg (by omega)]
    obtain ⟨q, rfl⟩ : ∃ q : Nat, x = (q : Int) := ⟨x.toNat, by omega⟩
    exact ⟨fun h => by rw [hinj q p (by omega) hp h], fun h => by rw [h]⟩
  rw [e]
-- a demand does not ask for the order
def lsum (f : Jb → Int) : List Jb → Int
 | [] => 0
 | x :: t => f x + lsum f t
theorem lsum_perm (f : Jb → Int) {a b : List Jb} (h : a.Perm b) : lsum f a = lsum f b := by
 induction h with
 | nil => rfl
 | cons x _ ih => simp only [lsum, ih]
 | swap x y _ => simp only [lsum]; omega
 | trans _ _ h1 h2 => exact h1.trans h2
theorem sumN_front (f : Nat → Int) : ∀ n, sumN (n + 1) f = f 0 + sumN n (fun i => f (i + 1))
 | 0 => by simp only [sumN]; omega
 | n + 1 => by
  have := sumN_front f n
  simp only [sumN] at this ⊢
  omega
theorem sumN_lsum (g : Jb → Int) : ∀ l : List Jb, sumN l.length (fun i => g (rJ l i)) = lsum g l
 | [] => rfl
 | x :: l => by
  have e2 : sumN l.length (fun i => g (rJ (x :: l) (i + 1))) = sumN l.length (fun i => g (rJ l i)) := by
   refine sumN_congr _ _ _ (fun i hi => ?_)
   have : rJ (x :: l) (i + 1) = rJ l i := by
    show rd_T45 (x :: l) ((i + 1 : Nat) : Int) = rd_T45 l (i : Int)
    rw [rdJ_get _ _ (by simpa using hi), rdJ_get _ _ hi]
    rfl
   rw [this]
  rw [List.length_cons, sumN_front, e2, sumN_lsum g l]
  rfl
theorem dem_lsum (l : List Jb) (nd : Jb → Int) (s d : Int) (h0 : ∀ p : Nat, p < l.length → 0 ≤ (rJ l p).f1) (hs : 0 ≤ s) : dem l 0 (l.map nd) s d = lsum (fun x => if s ≤ x.f1 ∧ x.f2 ≤ d then nd x else 0) l := by
 rw [← sumN_lsum]
 unfold dem
 refine sumN_congr _ _ _ (fun i hi => ?_)
 have := h0 i hi
 rw [rd_need l nd i hi]
 by_cases c : s ≤ (rJ l i).f1 ∧ (rJ l i).f2 ≤ d
 ·rw [if_pos ⟨.inr c.1, c.2⟩, if_pos c]
 ·rw [if_neg (fun hh => c ⟨by rcases hh.1 with e | e <;> omega, hh.2⟩), if_neg c]
theorem lsum_map (g : Jb → Int) (h : Int → Jb) : ∀ is : List Int, lsum g (is.map h) = (is.map fun i => g (h i)).foldr (· + ·) 0
 | [] => rfl
 | i :: is => by simp only [List.map_cons, lsum, List.foldr_cons, lsum_map g h is]
theorem lsum_two (g g' : Jb → Int) (h h' : Int → Jb) : ∀ is : List Int, (∀ i ∈ is, g (h i) = g' (h' i)) → lsum g (is.map h) = lsum g' (is.map h')
 | [], _ => rfl
 | i :: is, e => by
  simp only [List.map_cons, lsum]
  rw [e i (List.mem_cons_self ..), lsum_two g g' h h' is (fun j hj => e j (List.mem_cons_of_mem _ hj))]
/-- What can be met may be served in any order, as it works. -/
theorem inv_jobs {l : List Jb} {is ks : List Int} (ha : allJ l = true) (hi : ∀ i ∈ is, 0 ≤ i ∧ i < (l.length : Int)) (hr : ∀ i ∈ is, (rd_T45 l i).f4 ≤ (rd_T45 l i).f3) (hp : ks.Perm is) (hm : metS l is = true) : inv (jobsAt l ks) 0 ((jobsAt l ks).map workJ) := by
 have h1 := inv_meets hm
 have hgood : ∀ (ys : List Int), (∀ i ∈ ys, 0 ≤ i ∧ i < (l.length : Int)) → ∀ p : Nat, p < (jobsAt l ys).length → 0 ≤ (rJ (jobsAt l ys) p).f1 := fun ys hy p hp2 => by
  have := rdJ_mem (jobsAt l ys) (p : Int) (by omega) (by omega)
  obtain ⟨i, h, e⟩ := List.mem_map.1 this
  show 0 ≤ (rd_T45 (jobsAt l ys) (p : Int)).f1
  rw [← e]
  exact (goodJ_b (allJ_at ha i (hy i h).1 (hy i h).2)).1
 have hki : ∀ i ∈ ks, 0 ≤ i ∧ i < (l.length : Int) := fun i h => hi i (hp.mem_iff.1 h)
 refine ⟨fun x hx => ?_, by rw [List.length_map], fun s d hs hd => ?_⟩
 ·obtain ⟨y, _, rfl⟩ := List.mem_map.1 hx
  exact (workJ_bd y).1
 ·have h2 := h1.2.2 s d hs hd
  rw [dem_lsum _ chg s d (fun p hp2 => by
   have := rdJ_mem (is.map fun i => modJ (rd_T45 l i)) (p : Int) (by omega) (by omega)
   obtain ⟨i, h, e⟩ := List.mem_map.1 this
   show 0 ≤ (rd_T45 _ (p : Int)).f1
   rw [← e]
   exact (goodJ_b (allJ_at ha i (hi i h).1 (hi i h).2)).1) hs] at h2
  rw [dem_lsum _ workJ s d (hgood ks hki) hs]
  unfold jobsAt
  rw [lsum_perm _ (hp.map fun i => rd_T45 l i)]
  refine Int.le_trans (Int.le_of_eq ?_) h2
  refine lsum_two _ _ _ _ is (fun i h => ?_)
  have hg := allJ_at ha i (hi i h).1 (hi i h).2
  rw [mod_chg hg]
  unfold workJ
  rw [if_pos hg, if_pos (hr i h)]
  rfl

end Go.Proofs.YtobkfbkhcghaeaaGreatDoor.PRv
namespace Go.Proofs.YtobkfbkhcghaeaaGreatDoor.PRv
open Go.RowKit Go.Proofs.YtobkfbkhcghaeaaGreatDoor.PRv Go.Proofs.YtobkfbkhcghaeaaGreatDoorW.PrintWords Go.Proofs.YtobkfbkhcghaeaaGreatDoorW.PrintLast Go.Proofs.YtobkfbkhcghaeaaGreatDoorW.PrintMore 
set_option linter.unusedVariables false
set_option linter.unusedSimpArgs false

theorem keepL_sub (mt : List Int → Bool) : ∀ (o s : List Int), (keepL mt o s).Sublist (s ++ o)
 | [], s => by rw [List.append_nil]; exact List.Sublist.refl _
 | i :: o, s => by
  simp only [keepL]
  split
  ·have := keepL_sub mt o (s ++ [i])
   rwa [List.append_assoc, List.singleton_append] at this
  ·exact (keepL_sub mt o s).trans (List.Sublist.append (List.Sublist.refl _) (List.sublist_cons_self i o))
theorem keepL_has (mt : List Int → Bool) : ∀ (o s : List Int), ∀ x ∈ s, x ∈ keepL mt o s
 | [], s, x, h => h
 | i :: o, s, x, h => by
  simp only [keepL]
  refine keepL_has mt o _ x ?_
  split
  ·exact List.mem_append_left _ h
  ·exact h
theorem keepL_met (mt : List Int → Bool) : ∀ (o s : List Int), mt s = true → mt (keepL mt o s) = true
 | [], s, h => h
 | i :: o, s, h => by
  simp only [keepL]
  refine keepL_met mt o _ ?_
  split
  ·assumption
  ·exact h
theorem keepL_best (mt : List Int → Bool) (val : Int → Int) : ∀ (o s : List Int), o.Pairwise (fun a b => val b ≤ val a) → (∀ j ∈ s, ∀ i ∈ o, val i ≤ val j) → ∀ i ∈ o, mt [i] = true → ∃ j ∈ keepL mt o s, val i ≤ val j
 | [], _, _, _, _, h, _ => by cases h
 | x :: o, s, hs, hv, i, hi, hm => by
  have hc := List.pairwise_cons.1 hs
  simp only [keepL]
  rcases List.mem_cons.1 hi with rfl | hio
  ·cases s with
   | nil =>
    rw [List.nil_append, if_pos hm]
    exact ⟨i, keepL_has mt o _ i (List.mem_singleton.2 rfl), Int.le_refl _⟩
   | cons j s =>
    refine ⟨j, keepL_has mt o _ j ?_, hv j (List.mem_cons_self ..) i (List.mem_cons_self ..)⟩
    split
    ·exact List.mem_append_left _ (List.mem_cons_self ..)
    ·exact List.mem_cons_self ..
  ·refine keepL_best mt val o _ hc.2 ?_ i hio hm
   intro j hj i2 hi2
   split at hj
   ·rcases List.mem_append.1 hj with hj | hj
    ·exact hv j hj i2 (List.mem_cons_of_mem _ hi2)
    ·rw [List.mem_singleton.1 hj]
     exact hc.1 i2 hi2
   ·exact hv j hj i2 (List.mem_cons_of_mem _ hi2)
theorem inj_of {is : List Int} (h : is.Nodup) : inj is := by
 intro p q hp hq e
 rw [rd_get is p hp, rd_get is q hq] at e
 have h2 := List.pairwise_iff_getElem.1 h
 rcases Nat.lt_trichotomy p q with c | c | c
 ·exact absurd e (h2 p q hp hq c)
 ·exact c
 ·exact absurd e.symm (h2 q p hq hp c)
theorem nodup_nI {l : List Nat} (h : l.Nodup) : (nI l).Nodup := by
 unfold nI
 unfold List.Nodup at h ⊢
 rw [List.pairwise_map]
 exact h.imp (fun hne e => hne (by omega))
theorem ordV_nodup (l : List Jb) : (ordV l).Nodup := by
 unfold ordV
 refine nodup_nI ((srt_perm _ _).nodup_iff.2 ?_)
 unfold okI preI
 exact List.nodup_range.filter _
theorem ordV_runs (l : List Jb) : ∀ i ∈ ordV l, (rd_T45 l i).f4 ≤ (rd_T45 l i).f3 := by
 intro i hi
 obtain ⟨j, hj, rfl⟩ := List.mem_map.1 hi
 have := (List.mem_filter.1 ((srt_perm _ _).mem_iff.1 hj)).2
 exact of_decide_eq_true this
theorem ordV_has (l : List Jb) (i : Nat) (hi : i < l.length) (hr : (rJ l i).f4 ≤ (rJ l i).f3) : (i : Int) ∈ ordV l :=
 List.mem_map.2 ⟨i, (srt_perm _ _).mem_iff.2 (List.mem_filter.2 ⟨List.mem_range.2 hi, decide_eq_true hr⟩), rfl⟩
theorem ordV_sorted (l : List Jb) : (ordV l).Pairwise (fun a b => (rd_T45 l b).f5 ≤ (rd_T45 l a).f5) := by
 unfold ordV nI
 rw [List.pairwise_map]
 refine List.Pairwise.imp ?_ (srt_sorted (keyV l) (okI l))
 intro a b h
 have := of_decide_eq_true h
 unfold keyV at this
 omega
theorem keptL_sub (l : List Jb) : (keptL l).Sublist (ordV l) := by
 have := keepL_sub (metS l) (ordV l) []
 rwa [List.nil_append] at this
theorem keptL_met (l : List Jb) : metS l (keptL l) = true := keepL_met _ _ _ (by unfold metS; rfl)
theorem ks_perm (l : List Jb) : (ksG l).Perm (keptL l) := List.mergeSort_perm _ _
theorem ks_nodup (l : List Jb) : (ksG l).Nodup := (ks_perm l).nodup_iff.2 ((ordV_nodup l).sublist (keptL_sub l))
theorem ks_runs (l : List Jb) : ∀ i ∈ keptL l, (rd_T45 l i).f4 ≤ (rd_T45 l i).f3 := fun i hi => ordV_runs l i ((keptL_sub l).subset hi)
theorem jobs_all {l : List Jb} {ks : List Int} (ha : allJ l = true) (hi : ∀ i ∈ ks, 0 ≤ i ∧ i < (l.length : Int)) : (jobsAt l ks).all goodJ = true := by
 rw [List.all_eq_true]
 intro x hx
 obtain ⟨i, h, rfl⟩ := List.mem_map.1 hx
 exact allJ_at ha i (hi i h).1 (hi i h).2
theorem greedyT_is {l : List Jb} (ha : allJ l = true) : greedyT l = backT (ksG l) (goE (jobsAt l (ksG l)) (nI (ordD (jobsAt l (ksG l)))) (min (endJ l) 10000).toNat 0 ((jobsAt l (ksG l)).map workJ)) := by
 unfold greedyT
 rw [runE_is (jobs_all ha (ksG_in l)) _ (endJ_b l).1]
theorem g_inv {l : List Jb} (ha : allJ l = true) : inv (jobsAt l (ksG l)) 0 ((jobsAt l (ksG l)).map workJ) :=
 inv_jobs ha (keptL_in l) (ks_runs l) (ks_perm l) (keptL_met l)
theorem jobs_rJ (l : List Jb) (ks : List Int) (p : Nat) (hp : p < ks.length) : rJ (jobsAt l ks) p = rd_T45 l (rd ks (p : Int)) := rJ_at l (fun x => x) ks p hp
theorem ks_mem (l : List Jb) (p : Nat) (hp : p < (ksG l).length) : rd (ksG l) (p : Int) ∈ ksG l := rd_mem _ _ (by omega) (by omega)
theorem rd_zero (n : Nat) (x : Int) : rd (List.replicate n (0 : Int)) x = 0 := by
 unfold rd
 rw [List.getD_eq_getElem?_getD, List.getElem?_replicate]
 split <;> rfl
theorem greedy_goodT {l : List Jb} (ha : allJ l = true) : goodT l (greedyT l) = true := by
 unfold goodT
 rw [ha, greedyT_is ha]
 have hlen : (backT (ksG l) (goE (jobsAt l (ksG l)) (nI (ordD (jobsAt l (ksG l)))) (min (endJ l) 10000).toNat 0 ((jobsAt l (ksG l)).map workJ))).length ≤ 10000 := by
  unfold backT
  rw [List.length_map, goE_len]
  omega
 rw [decide_eq_true hlen, Bool.true_and, Bool.true_and]
 have := back_good (l := l) (js := jobsAt l (ksG l)) (ks := ksG l) (fun p hp => ksG_in l _ (ks_mem l p hp)) (inj_of (ks_nodup l)) (jobsAt_len l (ksG l)) (fun p hp => jobs_rJ l _ p hp) (min (endJ l) 10000).toNat 0 ((jobsAt l (ksG l)).map workJ) (List.replicate l.length 0) (g_inv ha) (List.length_replicate ..) (fun p hp => by
  rw [rd_zero, rd_need _ _ p (by rw [jobsAt_len]; exact hp), jobs_rJ l _ p hp]
  omega)
 exact this
theorem greedy_met {l : List Jb} (ha : allJ l = true) (i : Int) (hi : i ∈ keptL l) : metJ l (greedyT l) i = true := by
 have hik : i ∈ ksG l := (ks_perm l).mem_iff.2 hi
 obtain ⟨p, hp, rfl⟩ := List.mem_iff_getElem.1 hik
 rw [← rd_get (ksG l) p hp] at hi ⊢
 have hin := ksG_in l _ (ks_mem l p hp)
 have hg := allJ_at ha _ hin.1 hin.2
 have hb := goodJ_b hg
 refine met_of ha hin.1 hin.2 (ks_runs l _ hi) ?_
 have hpj : p < (jobsAt l (ksG l)).length := by rw [jobsAt_len]; exact hp
 have hd := endJ_ge ha _ (rdJ_mem l (rd (ksG l) (p : Int)) hin.1 hin.2)
 have := edf_meets (jobsAt l (ksG l)) (min (endJ l) 10000).toNat 0 _ (g_inv ha) p hpj (by rw [jobs_rJ l _ p hp]; omega) (by rw [jobs_rJ l _ p hp]; omega)
 rw [rd_need _ _ p hpj, jobs_rJ l _ p hp, Int.sub_zero] at this
 refine Int.le_trans this (Int.le_of_eq ?_)
 rw [greedyT_is ha]
 unfold backT
 rw [← List.map_take]
 congr 1
 symm
 refine back_cnt (inj_of (ks_nodup l)) (fun q hq => by have := (ksG_in l _ (ks_mem l q hq)).1; omega) p hp _ (fun x hx => ?_)
 have := goE_in (jobsAt l (ksG l)) _ (ordD_in _) _ _ _ x (List.mem_of_mem_take hx)
 rwa [jobsAt_len] at this
/-- A job that fits alone can be met. -/
theorem met_one {l : List Jb} (ha : allJ l = true) (i : Int) (h0 : 0 ≤ i) (h1 : i < (l.length : Int)) (hf : (rd_T45 l i).f4 ≤ (rd_T45 l i).f2 - (rd_T45 l i).f1) : metS l [i] = true := by
 have hg := allJ_at ha i h0 h1
 have hb := goodJ_b hg
 have hin : ∀ j ∈ [i], 0 ≤ j ∧ j < (l.length : Int) := fun j hj => by rw [List.mem_singleton.1 hj]; exact ⟨h0, h1⟩
 unfold metS
 refine meets_inv (mods_all ha hin (by simp)) ⟨fun x hx => ?_, by rw [List.length_map], fun s d hs hd => ?_⟩
 ·obtain ⟨y, _, rfl⟩ := List.mem_map.1 hx
  exact (chg_bd y).1
 ·rw [dem_lsum _ chg s d (fun p hp => by
   have : p = 0 := by simpa using hp
   subst this
   show 0 ≤ (rd_T45 l i).f1
   omega) hs]
  simp only [List.map_cons, List.map_nil, lsum]
  have e1 : (modJ (rd_T45 l i)).f1 = (rd_T45 l i).f1 := rfl
  have e2 : (modJ (rd_T45 l i)).f2 = (rd_T45 l i).f2 := rfl
  rw [mod_chg hg, e1, e2]
  split <;> omega
-- what a trace earns, as a sum
theorem val_sum {l : List Jb} (ha : allJ l = true) (m : Int → Bool) : ∀ (d i : Nat) (acc : Int), i + d = l.length → acc = sumN i (fun p => if m (p : Int) = true then (rJ l p).f5 else 0) → 0 ≤ acc → acc ≤ (i : Int) * 1000000 → valL l m d i acc = sumN l.length (fun p => if m (p : Int) = true then (rJ l p).f5 else 0) := by
 intro d
 induction d with
 | zero =>
  intro i acc h he _ _
  obtain rfl : i = l.length := by omega
  exact he
 | succ d ih =>
  intro i acc h he h0 h1
  have hl : l.length ≤ 200 := by unfold allJ at ha; rw [Bool.and_eq_true] at ha; exact of_decide_eq_true ha.1
  have hg := goodJ_b (all_rJ ha i (by omega))
  have hg5 : 0 ≤ (rJ l i).f5 ∧ (rJ l i).f5 ≤ 1000000 := ⟨hg.2.2.2.2.2.2.2.1, hg.2.2.2.2.2.2.2.2.1⟩
  clear hg
  have e : (if m (i : Int) = true then wrap64 (acc + (rJ l i).f5) else acc) = acc + if m (i : Int) = true then (rJ l i).f5 else 0 := by
   split
   ·rw [w64 _ (by omega) (by omega)]
   ·omega
  have e2 : valL l m (d + 1) i acc = valL l m d (i + 1) (if m (i : Int) = true then wrap64 (acc + (rJ l i).f5) else acc) := rfl
  have hb : 0 ≤ (if m (i : Int) = true then (rJ l i).f5 else 0) ∧ (if m (i : Int) = true then (rJ l i).f5 else 0) ≤ 1000000 := by
   split <;> omega
  rw [e2, e]
  refine ih (i + 1) _ (by omega) ?_ (by omega) (by omega)
  simp only [sumN]
  rw [he]
def earn (l : List Jb) (m : Nat → Bool) : Int := sumN l.length fun p => if m p = true then (rJ l p).f5 else 0
theorem val_is {l : List Jb} (ha : allJ l = true) (t : List Int) : valJ l t = earn l (fun p => metJ l t (p : Int)) :=
 val_sum ha (metJ l t) l.length 0 0 (by omega) rfl (by omega) (by omega)
/-- No single job that fits alone is worth more than the greedy one earns. -/
theorem greedy_best {l : List Jb} (ha : allJ l = true) (i : Nat) (hi : i < l.length) (hr : (rJ l i).f4 ≤ (rJ l i).f3) (hf : (rJ l i).f4 ≤ (rJ l i).f2 - (rJ l i).f1) : (rJ l i).f5 ≤ valJ l (greedyT l) := by
 obtain ⟨j, hj, hv⟩ := keepL_best (metS l) (fun i => (rd_T45 l i).f5) (ordV l) [] (ordV_sorted l) (fun j hj => by cases hj) (i : Int) (ordV_has l i hi hr) (met_one ha (i : Int) (by omega) (by omega) hf)
 have hjk : j ∈ keptL l := hj
 have hin := keptL_in l j hjk
 obtain ⟨q, rfl⟩ : ∃ q : Nat, j = (q : Int) := ⟨j.toNat, by omega⟩
 rw [val_is ha]
 have h1 := sumN_one (fun p => if p < l.length ∧ metJ l (greedyT l) (p : Int) = true then (rJ l p).f5 else 0) (fun p => by
  split
  ·rename_i c
   have := goodJ_b (all_rJ ha p c.1)
   omega
  ·omega) l.length q (by omega)
 rw [if_pos ⟨by omega, greedy_met ha _ hjk⟩] at h1
 have h2 : earn l (fun p => metJ l (greedyT l) (p : Int)) = sumN l.length (fun p => if p < l.length ∧ metJ l (greedyT l) (p : Int) = true then (rJ l p).f5 else 0) := by
  refine sumN_congr _ _ _ (fun p hp => ?_)
  simp [hp]
 rw [h2]
 exact Int.le_trans hv h1

end Go.Proofs.YtobkfbkhcghaeaaGreatDoor.PRv
namespace Go.Proofs.YtobkfbkhcghaeaaGreatDoor.PRv
open Go.RowKit Go.Proofs.YtobkfbkhcghaeaaGreatDoor.PRv Go.Proofs.YtobkfbkhcghaeaaGreatDoorW.PrintWords Go.Proofs.YtobkfbkhcghaeaaGreatDoorW.PrintLast Go.Proofs.YtobkfbkhcghaeaaGreatDoorW.PrintMore 
set_option linter.unusedVariables false
set_option linter.unusedSimpArgs false

set_option maxRecDepth 100000
theorem bit_is : ∀ s : Fin 256, ∀ i : Fin 8, decide (Go.bits .and .i64 (shr .i64 (s.val : Int) (i.val : Int)) 1 = 1) = s.val.testBit i.val := by decide +kernel
theorem shl_is : ∀ n : Fin 9, shl .i64 1 (n.val : Int) = ((2 ^ n.val : Nat) : Int) := by decide +kernel
theorem bits_all (q : Nat → Bool) : ∀ n : Nat, ∃ s, s < 2 ^ n ∧ ∀ i, i < n → s.testBit i = q i
 | 0 => ⟨0, by decide, fun i h => by omega⟩
 | n + 1 => by
  obtain ⟨s, h1, h2⟩ := bits_all q n
  have hp : 2 ^ (n + 1) = 2 ^ n + 2 ^ n := by rw [Nat.pow_succ]; omega
  cases hq : q n
  ·refine ⟨s, by omega, fun i hi => ?_⟩
   by_cases e : i = n
   ·subst e; rw [hq, Nat.testBit_lt_two_pow h1]
   ·exact h2 i (by omega)
  ·refine ⟨2 ^ n + s, by omega, fun i hi => ?_⟩
   by_cases e : i = n
   ·subst e; rw [hq, Nat.testBit_two_pow_add_eq, Nat.testBit_lt_two_pow h1]; rfl
   ·rw [Nat.testBit_two_pow_add_gt (by omega), h2 i (by omega)]
def selQ (n : Nat) (q : Nat → Bool) : List Int := nI ((List.range n).filter q)
def mayQ (l : List Jb) (n : Nat) (q : Nat → Bool) : Bool := (List.range n).all fun i => !q i || runsJ (rJ l i)
def valQ (l : List Jb) (n : Nat) (q : Nat → Bool) : Int := sumN n fun p => if q p = true then (rJ l p).f5 else 0
theorem selQ_step (n : Nat) (q : Nat → Bool) : selQ (n + 1) q = if q n = true then selQ n q ++ [(n : Int)] else selQ n q := by
 unfold selQ nI
 rw [List.range_succ, List.filter_append]
 cases h : q n <;> simp [h]
theorem mayQ_step (l : List Jb) (n : Nat) (q : Nat → Bool) : mayQ l (n + 1) q = (mayQ l n q && (!q n || runsJ (rJ l n))) := by
 unfold mayQ
 rw [List.range_succ, List.all_append]
 simp
theorem selQ_in (n : Nat) (q : Nat → Bool) : ∀ i ∈ selQ n q, 0 ≤ i ∧ i < (n : Int) := by
 intro i hi
 obtain ⟨j, hj, rfl⟩ := List.mem_map.1 hi
 have := List.mem_range.1 (List.mem_filter.1 hj).1
 omega
theorem selQ_len (n : Nat) (q : Nat → Bool) : (selQ n q).length ≤ n := by
 unfold selQ
 rw [nI_len]
 exact Nat.le_trans (List.length_filter_le _ _) (by simp)
theorem selQ_nodup (n : Nat) (q : Nat → Bool) : (selQ n q).Nodup := nodup_nI (List.nodup_range.filter _)
def takeQ (l : List Jb) (q : Nat → Bool) (b : Int) : Int := if mayQ l l.length q = true then (if valQ l l.length q > b then (if metS l (selQ l.length q) = true then valQ l l.length q else b) else b) else b
def bestN (l : List Jb) : Nat → Int
 | 0 => 0
 | s + 1 => takeQ l (fun i => s.testBit i) (bestN l s)
theorem valQ_bd {l : List Jb} (ha : allJ l = true) (q : Nat → Bool) : ∀ n, n ≤ l.length → 0 ≤ valQ l n q ∧ valQ l n q ≤ (n : Int) * 1000000 := by
 intro n
 induction n with
 | zero => intro _; unfold valQ; simp only [sumN]; omega
 | succ n ih =>
  intro h
  have := ih (by omega)
  have hg := goodJ_b (all_rJ ha n (by omega))
  have hg5 : 0 ≤ (rJ l n).f5 ∧ (rJ l n).f5 ≤ 1000000 := ⟨hg.2.2.2.2.2.2.2.1, hg.2.2.2.2.2.2.2.2.1⟩
  clear hg
  unfold valQ at this ⊢
  simp only [sumN]
  split <;> omega
theorem Best_l1 {l : List Jb} (ha : allJ l = true) (hn : l.length ≤ 8) (s : Nat) (hs : s < 256) (b S : Int) : ∀ (e i k : Nat), i + e = l.length →
  rival_Best.l1 (k + e + 1) l b (s : Int) (selQ i fun i => s.testBit i) (valQ l i fun i => s.testBit i) (mayQ l i fun i => s.testBit i) S (s : Int) l (l.length : Int) (i : Int) =
   (if mayQ l l.length (fun i => s.testBit i) = true then (if valQ l l.length (fun i => s.testBit i) > b then ((rival_met.f k l (selQ l.length fun i => s.testBit i)).bind fun t => if t = true then rival_Best.l0 k l (valQ l l.length fun i => s.testBit i) S (wrap64 ((s : Int) + 1)) else rival_Best.l0 k l b S (wrap64 ((s : Int) + 1))) else rival_Best.l0 k l b S (wrap64 ((s : Int) + 1))) else rival_Best.l0 k l b S (wrap64 ((s : Int) + 1))) := by
 intro e
 induction e with
 | zero =>
  intro i k h
  obtain rfl : i = l.length := by omega
  rw [Nat.add_zero]
  conv => lhs; unfold rival_Best.l1
  rw [if_neg (by omega)]
 | succ e ih =>
  intro i k h
  have hb := bit_is ⟨s, hs⟩ ⟨i, by omega⟩
  dsimp only at hb
  have hg := goodJ_b (all_rJ ha i (by omega))
  have hg5 : 0 ≤ (rJ l i).f5 ∧ (rJ l i).f5 ≤ 1000000 := ⟨hg.2.2.2.2.2.2.2.1, hg.2.2.2.2.2.2.2.2.1⟩
  clear hg
  have hv := valQ_bd ha (fun i => s.testBit i) i (by omega)
  have hv2 : valQ l (i + 1) (fun i => s.testBit i) = valQ l i (fun i => s.testBit i) + if s.testBit i = true then (rJ l i).f5 else 0 := rfl
  have hsl := selQ_len i (fun i => s.testBit i)
  have hih := ih (i + 1) k (by omega)
  rw [show ((i + 1 : Nat) : Int) = (i : Int) + 1 by omega, selQ_step, mayQ_step, hv2] at hih
  rw [show k + (e + 1) + 1 = (k + e + 1) + 1 by omega]
  conv => lhs; unfold rival_Best.l1
  rw [if_pos (by omega), if_pos (by omega), if_pos (by omega), w64 ((i : Int) + 1) (by omega) (by omega)]
  cases hq : s.testBit i
  ·rw [hq] at hb hih
   rw [if_neg (of_decide_eq_false hb)]
   simp only [Bool.false_eq_true, if_false, Bool.not_false, Bool.true_or, Bool.and_true, Int.add_zero] at hih
   exact hih
  ·rw [hq] at hb hih
   rw [if_pos (of_decide_eq_true hb), if_pos (by omega), Option.bind_some]
   simp only [if_true, Bool.not_true, Bool.false_or] at hih
   rw [w64 (valQ l i (fun i => s.testBit i) + (rd_T45 l (i : Int)).f5) (by show _ ≤ valQ l i (fun i => s.testBit i) + (rJ l i).f5; omega) (by show valQ l i (fun i => s.testBit i) + (rJ l i).f5 ≤ _; omega)]
   cases hm : mayQ l i (fun i => s.testBit i)
   ·rw [hm, Bool.false_and] at hih
    rw [if_neg (by simp)]
    exact hih
   ·rw [hm, Bool.true_and] at hih
    rw [if_pos rfl]
    exact hih
theorem Best_l0 {l : List Jb} (hl : okN l) (ha : allJ l = true) (hn : l.length ≤ 8) : ∀ (d s k : Nat), s + d = 2 ^ l.length → d * 12 + 10300 < k → rival_Best.l0 k l (bestN l s) ((2 ^ l.length : Nat) : Int) (s : Int) = some (bestN l (2 ^ l.length), 0) := by
 have hp : 2 ^ l.length ≤ 256 := Nat.pow_le_pow_right (by decide) hn
 intro d
 induction d with
 | zero =>
  intro s k h hk
  obtain ⟨k, rfl⟩ : ∃ k', k = k' + 1 := ⟨k - 1, by omega⟩
  unfold rival_Best.l0
  rw [if_neg (by omega), show s = 2 ^ l.length by omega]
 | succ d ih =>
  intro s k h hk
  obtain ⟨k, rfl⟩ : ∃ k', k = k' + l.length + 1 + 1 := ⟨k - l.length - 2, by omega⟩
  unfold rival_Best.l0
  rw [if_pos (by omega)]
  have h1 := Best_l1 ha hn s (by omega) (bestN l s) ((2 ^ l.length : Nat) : Int) l.length 0 k (by omega)
  have hih := ih (s + 1) k (by omega) (by omega)
  refine h1.trans ?_
  rw [w64 ((s : Int) + 1) (by omega) (by omega), show (s : Int) + 1 = ((s + 1 : Nat) : Int) by omega, Met_is l hl _ (fun i hi => by have := selQ_in _ _ i hi; omega) (by have := selQ_len l.length (fun i => s.testBit i); omega) k (by omega), Option.bind_some]
  have e : bestN l (s + 1) = takeQ l (fun i => s.testBit i) (bestN l s) := rfl
  rw [e] at hih
  unfold takeQ at hih
  split
  ·rename_i c1
   rw [if_pos c1] at hih
   split
   ·rename_i c2
    rw [if_pos c2] at hih
    split
    ·rename_i c3
     rw [if_pos c3] at hih
     exact hih
    ·rename_i c3
     rw [if_neg c3] at hih
     exact hih
   ·rename_i c2
    rw [if_neg c2] at hih
    exact hih
  ·rename_i c1
   rw [if_neg c1] at hih
   exact hih
def bestJ (l : List Jb) : Int := bestN l (2 ^ l.length)
theorem Best_is {l : List Jb} (hl : okN l) (ha : allJ l = true) (hn : l.length ≤ 8) (k : Nat) (hk : 14000 < k) : rival_Best.f k l = some (bestJ l, 0) := by
 have hp : 2 ^ l.length ≤ 256 := Nat.pow_le_pow_right (by decide) hn
 unfold rival_Best.f
 rw [All_is l hl, Option.bind_some, if_pos ha, if_neg (by omega), shl_is ⟨l.length, by omega⟩]
 exact Best_l0 hl ha hn (2 ^ l.length) 0 k (by omega) (by omega)
theorem takeQ_ge (l : List Jb) (q : Nat → Bool) (b : Int) : b ≤ takeQ l q b := by
 unfold takeQ
 repeat' split
 all_goals omega
theorem bestN_mono (l : List Jb) (s : Nat) : ∀ d, bestN l s ≤ bestN l (s + d)
 | 0 => Int.le_refl _
 | d + 1 => Int.le_trans (bestN_mono l s d) (takeQ_ge _ _ _)
theorem selQ_congr (n : Nat) (q q' : Nat → Bool) (h : ∀ i, i < n → q i = q' i) : selQ n q = selQ n q' := by
 unfold selQ
 congr 1
 exact List.filter_congr fun i hi => h i (List.mem_range.1 hi)
theorem valQ_congr (l : List Jb) (n : Nat) (q q' : Nat → Bool) (h : ∀ i, i < n → q i = q' i) : valQ l n q = valQ l n q' :=
 sumN_congr _ _ _ fun i hi => by rw [h i hi]
/-- No set that can be met is worth more than the best. -/
theorem best_ge {l : List Jb} (q : Nat → Bool) (hr : ∀ i, i < l.length → q i = true → (rJ l i).f4 ≤ (rJ l i).f3) (hm : metS l (selQ l.length q) = true) : valQ l l.length q ≤ bestJ l := by
 obtain ⟨s, hs, hq⟩ := bits_all q l.length
 rw [selQ_congr _ _ _ (fun i hi => (hq i hi).symm)] at hm
 rw [valQ_congr _ _ _ _ (fun i hi => (hq i hi).symm)]
 have hmay : mayQ l l.length (fun i => s.testBit i) = true := by
  unfold mayQ
  rw [List.all_eq_true]
  intro i hi
  have hil := List.mem_range.1 hi
  show (!s.testBit i || runsJ (rJ l i)) = true
  cases hb : s.testBit i
  ·rfl
  ·rw [Bool.not_true, Bool.false_or]
   exact decide_eq_true (hr i hil (by rw [← hq i hil]; exact hb))
 have h1 : valQ l l.length (fun i => s.testBit i) ≤ bestN l (s + 1) := by
  show _ ≤ takeQ l (fun i => s.testBit i) (bestN l s)
  unfold takeQ
  rw [if_pos hmay, if_pos hm]
  split <;> omega
 have h2 := bestN_mono l (s + 1) (2 ^ l.length - (s + 1))
 rw [show s + 1 + (2 ^ l.length - (s + 1)) = 2 ^ l.length by omega] at h2
 exact Int.le_trans h1 h2
/-- The best is none, or some set that can be met. -/
theorem best_some (l : List Jb) : ∀ s, bestN l s = 0 ∨ ∃ q : Nat → Bool, bestN l s = valQ l l.length q ∧ (∀ i, i < l.length → q i = true → (rJ l i).f4 ≤ (rJ l i).f3) ∧ metS l (selQ l.length q) = true
 | 0 => .inl rfl
 | s + 1 => by
  have ih := best_some l s
  have e : bestN l (s + 1) = takeQ l (fun i => s.testBit i) (bestN l s) := rfl
  rw [e]
  unfold takeQ
  split
  ·rename_i c1
   split
   ·split
    ·rename_i c3
     refine .inr ⟨fun i => s.testBit i, rfl, fun i hi hb => ?_, c3⟩
     unfold mayQ at c1
     rw [List.all_eq_true] at c1
     have := c1 i (List.mem_range.2 hi)
     rw [hb, Bool.not_true, Bool.false_or] at this
     exact of_decide_eq_true this
    ·exact ih
   ·exact ih
  ·exact ih

end Go.Proofs.YtobkfbkhcghaeaaGreatDoor.PRv
