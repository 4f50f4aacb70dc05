/- What skip's Misses and Worst come to, in plain numbers. -/
import Derived.Test.YtkjboaepeecinaaPSkx5
import Derived.Test.YtkjboaepeecinaaSkLaw
import Derived.Test.YtkjboaepeecinaaSkMarks
namespace Go.Proofs.Ytkjboaepeecinaa.Pure
open Go.RowKit Go.Proofs.Ytkjboaepeecinaa.PSk Go.Proofs.YtkjboaepeecinaaW.PrintWords Go.Proofs.YtkjboaepeecinaaW.PrintLast Go.Proofs.YtkjboaepeecinaaW.PrintMore Go.Proofs.Ytkjboaepeecinaa.PSk
set_option linter.unusedVariables false
set_option linter.unusedSimpArgs false

def ofI (i : Int) (M : List S33) : List S33 := M.filter fun m => decide (m.f0 = i)
def missV (M : List S33) : List Int := (M.filter fun m => !m.f3).map fun m => m.f1
def valV (M : List S33) : List Int := M.map fun m => if m.f3 = true then 0 else 1
theorem valV_bd (M : List S33) : ∀ x ∈ valV M, 0 ≤ x ∧ x ≤ 1 := by
  intro x hx
  obtain ⟨m, _, rfl⟩ := List.mem_map.1 hx
  split <;> omega
theorem drop33 (M : List S33) (i : Nat) (h : i < M.length) : M.drop i = rd_T33 M (i : Int) :: M.drop (i + 1) := by
  rw [List.drop_eq_getElem_cons h]
  congr 1
  unfold rd_T33
  rw [List.getD_eq_getElem?_getD, show ((i : Int)).toNat = i by omega, List.getElem?_eq_getElem h]
  rfl
theorem misses_l0 (T : List Int) (M : List S33) (i : Int) (hM : M.length ≤ 1000000) : ∀ (d k q : Nat) (acc : List Int), q ≤ M.length → M.length - q = d → d < k → acc.length ≤ q →
    skip_Misses.l0 k i acc M (M.length : Int) (q : Int) = some (acc ++ missV (ofI i (M.drop q))) := by
  intro d
  induction d with
  | zero =>
    intro k q acc hq hd hk ha
    obtain ⟨k, rfl⟩ : ∃ m, k = m + 1 := ⟨k - 1, by omega⟩
    simp only [skip_Misses.l0]
    rw [if_neg (by omega), List.drop_of_length_le (by omega)]
    simp [ofI, missV]
  | succ d ih =>
    intro k q acc hq hd hk ha
    obtain ⟨k, rfl⟩ : ∃ m, k = m + 1 := ⟨k - 1, by omega⟩
    simp only [skip_Misses.l0]
    rw [if_pos (by omega), if_pos (by omega), if_pos (by omega), w64 (x := (q : Int) + 1) (by omega) (by omega), drop33 M q (by omega)]
    have e : ((q : Int) + 1) = ((q + 1 : Nat) : Int) := by push_cast; rfl
    rw [e]
    have go : ∀ acc' : List Int, acc'.length ≤ q + 1 → skip_Misses.l0 k i acc' M (M.length : Int) ((q + 1 : Nat) : Int) = some (acc' ++ missV (ofI i (M.drop (q + 1)))) := fun acc' h => ih k (q + 1) acc' (by omega) (by omega) (by omega) h
    generalize rd_T33 M (q : Int) = m at *
    by_cases h1 : m.f0 = i
    · rw [if_pos h1]
      have eo : ofI i (m :: M.drop (q + 1)) = m :: ofI i (M.drop (q + 1)) := by unfold ofI; rw [List.filter_cons_of_pos (by simpa using h1)]
      rw [eo]
      cases h2 : m.f3 with
      | true =>
        rw [if_pos rfl, go acc (by omega)]
        unfold missV
        rw [List.filter_cons_of_neg (by simp [h2])]
      | false =>
        rw [if_neg (by simp), if_pos (by omega), go _ (by simp; omega)]
        unfold missV
        rw [List.filter_cons_of_pos (by simp [h2])]
        simp
    · rw [if_neg h1, go acc (by omega)]
      unfold ofI
      rw [List.filter_cons_of_neg (by simpa using h1)]
theorem misses_is (T : List Int) (M : List S33) (i : Int) (hM : M.length ≤ 1000000) (k : Nat) (hk : M.length < k) : skip_Misses.f k T M i = some (missV (ofI i M)) := by
  unfold skip_Misses.f
  exact misses_l0 T M i hM M.length k 0 [] (by omega) (by omega) hk (by simp)
theorem psum_val (v : List Int) (hv : ∀ x ∈ v, 0 ≤ x ∧ x ≤ 1) (q L : Nat) : 0 ≤ psum v q - psum v (q - L) ∧ psum v q - psum v (q - L) ≤ q := by
  have h1 := psum_le v (fun x hx => (hv x hx).1) (a := q - L) (b := q) (by omega)
  have h2 := (psum_bd v hv q).2
  have h3 := (psum_bd v hv (q - L)).1
  omega
theorem worstTo_bd (v : List Int) (hv : ∀ x ∈ v, 0 ≤ x ∧ x ≤ 1) (L : Nat) : ∀ q, worstTo v L q ≤ q
  | 0 => by simp [worstTo]
  | q + 1 => by
    have h1 := worstTo_bd v hv L q
    have h2 := (psum_val v hv (q + 1) L).2
    simp only [worstTo]
    push_cast at *
    omega
theorem rd_get (v : List Int) (q : Nat) (h : q < v.length) : rd v (q : Int) = v[q] := by
  unfold rd
  rw [List.getD_eq_getElem?_getD, show ((q : Int)).toNat = q by omega, List.getElem?_eq_getElem h]
  rfl
theorem worst_l1 (v : List Int) (hv : ∀ x ∈ v, 0 ≤ x ∧ x ≤ 1) (L : Int) (hL : 1 ≤ L) (hl : v.length ≤ 1000000) : ∀ (d k q : Nat), q ≤ v.length → v.length - q = d → d < k →
    skip_Worst.l1 k L v (worstTo v L.toNat q) (psum v q - psum v (q - L.toNat)) v (v.length : Int) (q : Int) = some (worstTo v L.toNat v.length) := by
  intro d
  induction d with
  | zero =>
    intro k q hq hd hk
    obtain ⟨k, rfl⟩ : ∃ m, k = m + 1 := ⟨k - 1, by omega⟩
    simp only [skip_Worst.l1]
    rw [if_neg (by omega), show q = v.length by omega]
  | succ d ih =>
    intro k q hq hd hk
    obtain ⟨k, rfl⟩ : ∃ m, k = m + 1 := ⟨k - 1, by omega⟩
    simp only [skip_Worst.l1]
    have hql : q < v.length := by omega
    have h1 := worst_step (v := v) (L := L.toNat) (q := q) (by omega) hql
    have h2 := psum_val v hv q L.toNat
    have h3 := hv _ (List.getElem_mem hql)
    have h4 := psum_val v hv (q + 1) L.toNat
    have h5 := worstTo_bd v hv L.toNat q
    have h6 := worstTo_nonneg (v := v) (L := L.toNat) q
    have hw : worstTo v L.toNat (q + 1) = max (worstTo v L.toNat q) (psum v (q + 1) - psum v (q + 1 - L.toNat)) := rfl
    have go := ih k (q + 1) (by omega) (by omega) (by omega)
    have e : ((q + 1 : Nat) : Int) = (q : Int) + 1 := by push_cast; rfl
    rw [if_pos (by omega), if_pos (by omega), if_pos (by omega), rd_get v q hql, w64 (x := (q : Int) + 1) (by omega) (by omega)]
    rw [w64 (x := psum v q - psum v (q - L.toNat) + v[q]) (by omega) (by omega)]
    rw [hw, e] at go
    by_cases hq2 : (q : Int) ≥ L
    · have hg : v.getD (q - L.toNat) 0 = v[q - L.toNat]'(by omega) := by rw [List.getD_eq_getElem?_getD, List.getElem?_eq_getElem (by omega)]; rfl
      have h7 := hv _ (List.getElem_mem (show q - L.toNat < v.length by omega))
      rw [if_pos (show L.toNat ≤ q by omega), hg] at h1
      rw [if_pos hq2, w64 (x := (q : Int) - L) (by omega) (by omega), if_pos (by omega), if_pos (by omega)]
      rw [show (q : Int) - L = ((q - L.toNat : Nat) : Int) by omega, rd_get v (q - L.toNat) (by omega)]
      rw [w64 (x := psum v q - psum v (q - L.toNat) + v[q] - v[q - L.toNat]'(by omega)) (by omega) (by omega), ← h1]
      have hm : mx (worstTo v L.toNat q) (psum v (q + 1) - psum v (q + 1 - L.toNat)) = max (worstTo v L.toNat q) (psum v (q + 1) - psum v (q + 1 - L.toNat)) := by unfold mx; split <;> omega
      rw [hm]
      exact go
    · rw [if_neg (show ¬ L.toNat ≤ q by omega), Int.sub_zero] at h1
      rw [if_neg hq2, ← h1]
      have hm : mx (worstTo v L.toNat q) (psum v (q + 1) - psum v (q + 1 - L.toNat)) = max (worstTo v L.toNat q) (psum v (q + 1) - psum v (q + 1 - L.toNat)) := by unfold mx; split <;> omega
      rw [hm]
      exact go
theorem valV_app (a b : List S33) : valV (a ++ b) = valV a ++ valV b := List.map_append ..
theorem worst_l0 (M : List S33) (i L : Int) (hM : M.length ≤ 1000000) : ∀ (d k q : Nat) (acc : List S33), q ≤ M.length → M.length - q = d → d + M.length + 5 < k → acc.length ≤ q →
    skip_Worst.l0 k i L (valV acc) M (M.length : Int) (q : Int) = some (worstV (valV (acc ++ ofI i (M.drop q))) L) := by
  intro d
  induction d with
  | zero =>
    intro k q acc hq hd hk ha
    obtain ⟨k, rfl⟩ : ∃ m, k = m + 1 := ⟨k - 1, by omega⟩
    simp only [skip_Worst.l0]
    rw [if_neg (by omega), List.drop_of_length_le (by omega)]
    rw [show acc ++ ofI i [] = acc by simp [ofI]]
    unfold worstV
    by_cases hL : L < 1
    · rw [if_pos hL, if_pos hL]
    · rw [if_neg hL, if_neg hL]
      have hlen : (valV acc).length = acc.length := List.length_map ..
      have := worst_l1 (valV acc) (valV_bd acc) L (by omega) (by omega) (valV acc).length k 0 (by omega) (by omega) (by omega)
      have e0 : psum (valV acc) 0 - psum (valV acc) (0 - L.toNat) = 0 := by rw [Nat.zero_sub]; omega
      rw [e0] at this
      exact this
  | succ d ih =>
    intro k q acc hq hd hk ha
    obtain ⟨k, rfl⟩ : ∃ m, k = m + 1 := ⟨k - 1, by omega⟩
    simp only [skip_Worst.l0]
    have hlen : (valV acc).length = acc.length := List.length_map ..
    rw [if_pos (by omega), if_pos (by omega), if_pos (by omega), w64 (x := (q : Int) + 1) (by omega) (by omega), drop33 M q (by omega)]
    have e : ((q : Int) + 1) = ((q + 1 : Nat) : Int) := by push_cast; rfl
    rw [e]
    have go : ∀ acc' : List S33, acc'.length ≤ q + 1 → skip_Worst.l0 k i L (valV acc') M (M.length : Int) ((q + 1 : Nat) : Int) = some (worstV (valV (acc' ++ ofI i (M.drop (q + 1)))) L) := fun acc' h => ih k (q + 1) acc' (by omega) (by omega) (by omega) h
    generalize rd_T33 M (q : Int) = m at *
    by_cases h1 : m.f0 = i
    · rw [if_pos h1]
      have eo : ofI i (m :: M.drop (q + 1)) = m :: ofI i (M.drop (q + 1)) := by unfold ofI; rw [List.filter_cons_of_pos (by simpa using h1)]
      have g1 := go (acc ++ [m]) (by simp; omega)
      rw [List.append_assoc] at g1
      rw [eo]
      have g2 : acc ++ m :: ofI i (M.drop (q + 1)) = acc ++ ([m] ++ ofI i (M.drop (q + 1))) := rfl
      rw [g2, ← g1, valV_app]
      cases h2 : m.f3 with
      | true =>
        rw [if_pos rfl, if_pos (by omega)]
        congr 1
        simp [valV, h2]
      | false =>
        rw [if_neg (by simp), if_pos (by omega)]
        congr 1
        simp [valV, h2]
    · rw [if_neg h1, go acc (by omega)]
      unfold ofI
      rw [List.filter_cons_of_neg (by simpa using h1)]
theorem worst_is (T : List Int) (M : List S33) (i L : Int) (hM : M.length ≤ 1000000) (k : Nat) (hk : 2 * M.length + 10 < k) : skip_Worst.f k T M i L = some (worstV (valV (ofI i M)) L) := by
  unfold skip_Worst.f
  exact worst_l0 M i L hM M.length k 0 [] (by omega) (by omega) (by omega) (by simp)

end Go.Proofs.Ytkjboaepeecinaa.Pure
