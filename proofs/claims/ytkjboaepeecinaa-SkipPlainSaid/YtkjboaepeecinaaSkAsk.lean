/- Tasks that can be held: the demand of any span, however long, goes into it. -/
import Derived.Test.YtkjboaepeecinaaPSkx0
import Derived.Test.YtkjboaepeecinaaSkLaw
import Derived.Test.YtkjboaepeecinaaSkEdf
namespace Go.Proofs.Ytkjboaepeecinaa.Pure
open Go.RowKit Go.Proofs.Ytkjboaepeecinaa.PSk Go.Proofs.YtkjboaepeecinaaW.PrintWords Go.Proofs.YtkjboaepeecinaaW.PrintLast Go.Proofs.YtkjboaepeecinaaW.PrintMore Go.Proofs.Ytkjboaepeecinaa.PSk
set_option linter.unusedVariables false
set_option linter.unusedSimpArgs false

theorem ask_add {x : St} {n L : Int} (hp : 1 ≤ x.p) (hs : x.s = 0 ∨ 2 ≤ x.s) (hd : x.p * max x.s 1 ∣ n) : askD (L + n) x = askD L x + askD n x := by
  obtain ⟨c, rfl⟩ := hd
  have e1 : (x.p * max x.s 1 * c) / x.p = max x.s 1 * c := by rw [Int.mul_assoc]; exact Int.mul_ediv_cancel_left _ (by omega)
  have e2 : (L + x.p * max x.s 1 * c) / x.p = L / x.p + max x.s 1 * c := by
    rw [Int.mul_assoc, Int.add_mul_ediv_left _ _ (by omega)]
  unfold askD
  rw [e1, e2, ← Int.mul_add]
  congr 1
  generalize L / x.p = m
  unfold capF
  by_cases h : x.s = 0
  · rw [if_pos h, if_pos h, if_pos h]
  · rw [if_neg h, if_neg h, if_neg h, show max x.s 1 = x.s by omega, show x.s - 1 - (x.s - 1) = 0 by omega, Int.add_zero, Int.add_zero, Int.add_zero, Int.add_mul_ediv_left _ _ h, Int.mul_ediv_cancel_left _ h]
    omega
theorem sum_add {n L : Int} : ∀ {S : List St}, (∀ x ∈ S, 1 ≤ x.p ∧ (x.s = 0 ∨ 2 ≤ x.s) ∧ x.p * max x.s 1 ∣ n) → sumL (askD (L + n)) S = sumL (askD L) S + sumL (askD n) S
  | [], _ => rfl
  | x :: l, h => by
    have h1 := h x (List.mem_cons_self ..)
    have h2 := sum_add (n := n) (L := L) (S := l) (fun y hy => h y (List.mem_cons_of_mem _ hy))
    unfold sumL at *
    simp only [List.map_cons, List.sum_cons]
    rw [h2, ask_add h1.1 h1.2.1 h1.2.2]
    omega
theorem ask_of (t : S35) (hg : goodTB t.f0 t.f1 t.f2 = true) (L : Int) (h0 : 0 ≤ L) (h1 : L ≤ 1000000) : askD L (iniT t) = ofS (qT t) L := by
  have hb := goodTB_iff hg
  unfold ofS askD capF qT
  simp only
  rw [if_pos (show goodTB t.f0 t.f1 t.f2 = true ∧ 0 ≤ L from ⟨hg, h0⟩), show min L 1000000 = L by omega]
  show t.f1 * (if t.f2 = 0 then L / t.f0 else L / t.f0 - (L / t.f0 + (t.f2 - 1 - (t.f2 - 1))) / t.f2) = _
  rw [show t.f2 - 1 - (t.f2 - 1) = 0 by omega, Int.add_zero, Int.mul_comm]
  by_cases h : t.f2 = 0
  · rw [if_pos h, if_neg (by omega)]
  · rw [if_neg h, if_pos (by omega)]
theorem sum_of : ∀ (l : List S35), (∀ t ∈ l, goodTB t.f0 t.f1 t.f2 = true) → ∀ L : Int, 0 ≤ L → L ≤ 1000000 → sumL (askD L) (l.map iniT) = sumS (l.map qT) L
  | [], _, _, _, _ => rfl
  | t :: l, h, L, h0, h1 => by
    have e1 := ask_of t (h t (List.mem_cons_self ..)) L h0 h1
    have e2 := sum_of l (fun y hy => h y (List.mem_cons_of_mem _ hy)) L h0 h1
    simp only [List.map_cons]
    rw [sumS_cons, ← e1, ← e2]
    rfl
theorem frame_dvd {l : List T3} (h : (frameS l).2 = 0) : 1 ≤ (frameS l).1 ∧ (frameS l).1 ≤ 100000 ∧ ∀ t ∈ l, longS t ∣ (frameS l).1 := by
  unfold frameS at *
  split at h
  · cases h
  · rename_i hq
    rw [if_neg hq]
    split at h
    · rename_i h2
      rw [if_pos h2]
      unfold lcmS at h2 ⊢
      split at h2
      · rename_i h3
        rw [if_pos h3]
        have hp := lcmFrom_pos (l.map longS) 1 (by decide) h3.1
        refine ⟨by show (1 : Int) ≤ (lcmFrom 1 (l.map longS) : Int); omega, h3.2, fun t ht => ?_⟩
        have := lcmFrom_mem (l.map longS) 1 (longS t) (List.mem_map_of_mem ht)
        show longS t ∣ (lcmFrom 1 (l.map longS) : Int)
        exact Int.natAbs_dvd_natAbs.1 (by simpa using this)
      · cases h2
    · cases h
theorem ini_ok {t : S35} (hg : goodTB t.f0 t.f1 t.f2 = true) (b : Bool) : okS b 0 (iniT t) := by
  have hb := goodTB_iff hg
  refine ⟨hb.1, hb.2.2.1, ?_, by show (-1 : Int) ≤ -1; omega, ?_, by show (0 : Int) ≤ 0; omega, ?_, by show (0 : Int) ≤ 0; omega, ?_, fun _ => .inl rfl, fun _ => ⟨rfl, rfl⟩, fun hs _ => ?_, fun _ _ h => absurd rfl h⟩
  · show t.f2 = 0 ∨ 2 ≤ t.f2
    omega
  · show (0 : Int) = (-1 + 1) * t.f0
    omega
  · show (0 : Int) < 0 + t.f0
    omega
  · show (0 : Int) ≤ t.f1
    omega
  · have hs' : t.f2 ≠ 0 := hs
    exact ⟨by show 0 ≤ t.f2 - 1; omega, by show t.f2 - 1 ≤ t.f2 - 1; omega, fun _ => rfl, fun h => absurd rfl h⟩
theorem held_ini {l : List S35} (h : heldS l) (b : Bool) : (∀ x ∈ l.map iniT, okS b 0 x) ∧ ∀ x ∈ l.map iniT, x.n = -1 := by
  refine ⟨fun x hx => ?_, fun x hx => ?_⟩
  · obtain ⟨t, ht, rfl⟩ := List.mem_map.1 hx
    exact ini_ok ((held_ok h).2.1 t ht) b
  · obtain ⟨t, ht, rfl⟩ := List.mem_map.1 hx
    rfl
theorem held_ask {l : List S35} (h : heldS l) : ∀ L : Int, 0 ≤ L → sumL (askD L) (l.map iniT) ≤ L := by
  obtain ⟨hl, hg, -⟩ := held_ok h
  have hf : (frameS (l.map qT)).2 = 0 := by
    have h1 := h.1
    unfold holdsS at h1
    split at h1
    · assumption
    · exact h1
  obtain ⟨n1, n2, n3⟩ := frame_dvd hf
  have hh : ∀ L : Int, 1 ≤ L → L ≤ (frameS (l.map qT)).1 → sumL (askD L) (l.map iniT) ≤ L := by
    intro L h0 h1
    have h2 := h.2
    unfold holdsS at h2
    rw [if_pos hf] at h2
    have h3 := List.all_eq_true.1 h2 (L - 1).toNat (by rw [List.mem_range]; omega)
    have h4 := of_decide_eq_true h3
    rw [show (((L - 1).toNat : Nat) : Int) + 1 = L by omega] at h4
    unfold allS at h4
    rw [if_neg (by simp; omega)] at h4
    rw [sum_of l hg L (by omega) (by omega)]
    exact h4
  generalize (frameS (l.map qT)).1 = n at *
  have h0 : sumL (askD 0) (l.map iniT) = 0 := by
    rw [sum_of l hg 0 (by omega) (by omega)]
    clear hh n3 hf hl h n1 n2
    induction l with
    | nil => rfl
    | cons t l ih =>
      have e1 := ih (fun y hy => hg y (List.mem_cons_of_mem _ hy))
      simp only [List.map_cons]
      rw [sumS_cons, e1]
      have e2 : ofS (qT t) 0 = 0 := by
        unfold ofS
        split
        · rw [show min (0 : Int) 1000000 = 0 by decide, Int.zero_ediv, Int.zero_ediv]
          simp
        · rfl
      rw [e2]
      rfl
  have go : ∀ (q : Nat) (r : Int), 0 ≤ r → r ≤ n → sumL (askD (r + q * n)) (l.map iniT) ≤ r + q * n := by
    intro q
    induction q with
    | zero =>
      intro r hr hrn
      rw [show r + ((0 : Nat) : Int) * n = r by simp]
      by_cases hz : r = 0
      · rw [hz, h0]; exact Int.le_refl _
      · exact hh r (by omega) hrn
    | succ q ih =>
      intro r hr hrn
      have e : r + ((q + 1 : Nat) : Int) * n = (r + (q : Int) * n) + n := by
        push_cast
        rw [Int.add_mul, Int.one_mul, ← Int.add_assoc]
      rw [e, sum_add (fun x hx => ?_)]
      · have := ih r hr hrn
        have := hh n n1 (Int.le_refl _)
        omega
      · obtain ⟨t, ht, rfl⟩ := List.mem_map.1 hx
        have hb := goodTB_iff (hg t ht)
        exact ⟨hb.1, by show t.f2 = 0 ∨ 2 ≤ t.f2; omega, n3 (qT t) (List.mem_map_of_mem ht)⟩
  intro L hL
  have e : L = L % n + ((L / n).toNat : Int) * n := by
    rw [Int.toNat_of_nonneg (Int.ediv_nonneg hL (by omega)), Int.mul_comm]
    exact (Int.emod_add_mul_ediv L n).symm
  rw [e]
  exact go _ _ (Int.emod_nonneg _ (by omega)) (Int.le_of_lt (Int.emod_lt_of_pos _ (by omega)))

end Go.Proofs.Ytkjboaepeecinaa.Pure
