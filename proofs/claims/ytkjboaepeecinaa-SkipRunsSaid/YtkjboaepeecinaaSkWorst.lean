/- The most in a row that were not met: windows over a list of noughts and ones. -/
import Derived.Test.YtkjboaepeecinaaPSkx0
import Derived.Test.YtkjboaepeecinaaSkBd
namespace Go.Proofs.Ytkjboaepeecinaa.PSk
open Go.RowKit Go.Proofs.Ytkjboaepeecinaa.PSk Go.Proofs.YtkjboaepeecinaaW.PrintWords Go.Proofs.YtkjboaepeecinaaW.PrintLast Go.Proofs.YtkjboaepeecinaaW.PrintMore 
set_option linter.unusedVariables false
set_option linter.unusedSimpArgs false

/-- The sum of the first q. -/
def psum (v : List Int) (q : Nat) : Int := (v.take q).sum
theorem psum_succ (v : List Int) (q : Nat) (h : q < v.length) : psum v (q + 1) = psum v q + v[q] := by
  unfold psum
  rw [List.take_succ_eq_append_getElem h, List.sum_append]
  simp
theorem psum_ge (v : List Int) (q : Nat) (h : v.length ≤ q) : psum v q = psum v v.length := by
  unfold psum
  rw [List.take_of_length_le h, List.take_length]
theorem psum_mono (v : List Int) (hv : ∀ x ∈ v, 0 ≤ x) (a : Nat) : ∀ d, psum v a ≤ psum v (a + d)
  | 0 => Int.le_refl _
  | d + 1 => by
    have := psum_mono v hv a d
    by_cases h : a + d < v.length
    · have h2 := psum_succ v (a + d) h
      have h3 := hv _ (List.getElem_mem h)
      rw [← Nat.add_assoc, h2]
      omega
    · rw [psum_ge v (a + (d + 1)) (by omega)]
      rw [psum_ge v (a + d) (by omega)] at this
      exact this
theorem psum_le (v : List Int) (hv : ∀ x ∈ v, 0 ≤ x) {a b : Nat} (h : a ≤ b) : psum v a ≤ psum v b := by
  obtain ⟨d, rfl⟩ : ∃ d, b = a + d := ⟨b - a, by omega⟩
  exact psum_mono v hv a d
theorem psum_bd (v : List Int) (hv : ∀ x ∈ v, 0 ≤ x ∧ x ≤ 1) : ∀ q, 0 ≤ psum v q ∧ psum v q ≤ q
  | 0 => by simp [psum]
  | q + 1 => by
    have := psum_bd v hv q
    by_cases h : q < v.length
    · have h2 := psum_succ v q h
      have h3 := hv _ (List.getElem_mem h)
      push_cast
      omega
    · rw [psum_ge v (q + 1) (by omega)]
      rw [psum_ge v q (by omega)] at this
      push_cast
      omega
def worstTo (v : List Int) (L : Nat) : Nat → Int
  | 0 => 0
  | q + 1 => max (worstTo v L q) (psum v (q + 1) - psum v (q + 1 - L))
def worstV (v : List Int) (L : Int) : Int := if L < 1 then 0 else worstTo v L.toNat v.length
theorem worstTo_le {v : List Int} {L : Nat} {c : Int} (hc : 0 ≤ c) : ∀ q, (∀ p, p < q → psum v (p + 1) - psum v (p + 1 - L) ≤ c) → worstTo v L q ≤ c
  | 0, _ => hc
  | q + 1, h => by
    have h1 := worstTo_le hc q (fun p hp => h p (by omega))
    have h2 := h q (by omega)
    simp only [worstTo]
    omega
theorem le_worstTo {v : List Int} {L : Nat} : ∀ q p, p < q → psum v (p + 1) - psum v (p + 1 - L) ≤ worstTo v L q
  | 0, p, h => by omega
  | q + 1, p, h => by
    simp only [worstTo]
    by_cases hp : p = q
    · subst hp; omega
    · have := le_worstTo (v := v) (L := L) q p (by omega)
      omega
theorem worstTo_nonneg {v : List Int} {L : Nat} : ∀ q, 0 ≤ worstTo v L q
  | 0 => Int.le_refl _
  | q + 1 => by
    have := worstTo_nonneg (v := v) (L := L) q
    simp only [worstTo]
    omega
theorem worst_step {v : List Int} {L q : Nat} (hL : 1 ≤ L) (hq : q < v.length) : psum v (q + 1) - psum v (q + 1 - L) = (psum v q - psum v (q - L)) + v[q] - (if L ≤ q then v.getD (q - L) 0 else 0) := by
  rw [psum_succ v q hq]
  split
  · rw [show q + 1 - L = q - L + 1 by omega, psum_succ v (q - L) (by omega), List.getD_eq_getElem?_getD, List.getElem?_eq_getElem (by omega)]
    show _ = _ - v[q - L]
    omega
  · rw [show q + 1 - L = q - L by omega]
    omega
/-- The reference's windows begin where the program's end. -/
def refTo (v : List Int) (L : Nat) : Nat → Int
  | 0 => 0
  | i + 1 => max (refTo v L i) (psum v (min v.length (i + L)) - psum v i)
theorem refTo_le {v : List Int} {L : Nat} {c : Int} (hc : 0 ≤ c) : ∀ q, (∀ p, p < q → psum v (min v.length (p + L)) - psum v p ≤ c) → refTo v L q ≤ c
  | 0, _ => hc
  | q + 1, h => by
    have h1 := refTo_le hc q (fun p hp => h p (by omega))
    have h2 := h q (by omega)
    simp only [refTo]
    omega
theorem le_refTo {v : List Int} {L : Nat} : ∀ q p, p < q → psum v (min v.length (p + L)) - psum v p ≤ refTo v L q
  | 0, p, h => by omega
  | q + 1, p, h => by
    simp only [refTo]
    by_cases hp : p = q
    · subst hp; omega
    · have := le_refTo (v := v) (L := L) q p (by omega)
      omega
theorem refTo_nonneg {v : List Int} {L : Nat} : ∀ q, 0 ≤ refTo v L q
  | 0 => Int.le_refl _
  | q + 1 => by
    have := refTo_nonneg (v := v) (L := L) q
    simp only [refTo]
    omega
theorem worst_ref (v : List Int) (hv : ∀ x ∈ v, 0 ≤ x) (L : Nat) (hL : 1 ≤ L) : worstTo v L v.length = refTo v L v.length := by
  apply Int.le_antisymm
  · refine worstTo_le (refTo_nonneg _) _ fun p hp => ?_
    by_cases h : L ≤ p + 1
    · have := le_refTo (v := v) (L := L) v.length (p + 1 - L) (by omega)
      rw [show min v.length (p + 1 - L + L) = p + 1 by omega] at this
      exact this
    · have := le_refTo (v := v) (L := L) v.length 0 (by omega)
      have h2 := psum_le v hv (a := p + 1) (b := min v.length (0 + L)) (by omega)
      rw [show p + 1 - L = 0 by omega]
      omega
  · refine refTo_le (worstTo_nonneg _) _ fun p hp => ?_
    have := le_worstTo (v := v) (L := L) v.length (min v.length (p + L) - 1) (by omega)
    rw [show min v.length (p + L) - 1 + 1 = min v.length (p + L) by omega] at this
    have h2 := psum_le v hv (a := min v.length (p + L) - L) (b := p) (by omega)
    omega
/-- Ones that are L apart: of L in a row one at most. -/
theorem apart_le (v : List Int) (hv : ∀ x ∈ v, 0 ≤ x ∧ x ≤ 1) (L : Nat) (ha : ∀ i j, i < j → j < v.length → v.getD i 0 = 1 → v.getD j 0 = 1 → L ≤ j - i) : ∀ (d a : Nat), d ≤ L → psum v (a + d) - psum v a ≤ 1
  | 0, a, _ => by rw [Nat.add_zero]; omega
  | d + 1, a, h => by
    have ih := apart_le v hv L ha d a (by omega)
    by_cases hl : a + d < v.length
    · have h2 := psum_succ v (a + d) hl
      have h3 := hv _ (List.getElem_mem hl)
      rw [← Nat.add_assoc, h2]
      by_cases h1 : v[a + d] = 0
      · omega
      · have z : ∀ e, e ≤ d → psum v (a + e) - psum v a = 0 := by
          intro e
          induction e with
          | zero => intro _; rw [Nat.add_zero]; omega
          | succ e ihe =>
            intro he
            have h4 := psum_succ v (a + e) (by omega)
            have h5 := hv _ (List.getElem_mem (show a + e < v.length by omega))
            have h6 := ihe (by omega)
            rw [← Nat.add_assoc, h4]
            by_cases h7 : v[a + e] = 0
            · omega
            · have := ha (a + e) (a + d) (by omega) hl (by rw [List.getD_eq_getElem?_getD, List.getElem?_eq_getElem (by omega)]; show v[a + e] = 1; omega) (by rw [List.getD_eq_getElem?_getD, List.getElem?_eq_getElem hl]; show v[a + d] = 1; omega)
              omega
        have := z d (Nat.le_refl _)
        omega
    · rw [psum_ge v (a + (d + 1)) (by omega)]
      rw [psum_ge v (a + d) (by omega)] at ih
      exact ih
theorem apart_worst (v : List Int) (hv : ∀ x ∈ v, 0 ≤ x ∧ x ≤ 1) (L : Nat) (ha : ∀ i j, i < j → j < v.length → v.getD i 0 = 1 → v.getD j 0 = 1 → L ≤ j - i) : worstTo v L v.length ≤ 1 := by
  refine worstTo_le (by decide) _ fun p hp => ?_
  by_cases h : L ≤ p + 1
  · have := apart_le v hv L ha L (p + 1 - L) (Nat.le_refl _)
    rw [show p + 1 - L + L = p + 1 by omega] at this
    exact this
  · have := apart_le v hv L ha (p + 1) 0 (by omega)
    rw [show 0 + (p + 1) = p + 1 by omega] at this
    rw [show p + 1 - L = 0 by omega]
    exact this

end Go.Proofs.Ytkjboaepeecinaa.PSk
