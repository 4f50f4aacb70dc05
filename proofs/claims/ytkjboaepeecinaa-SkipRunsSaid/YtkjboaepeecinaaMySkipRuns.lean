/- Any tasks, either way: who runs, each job's colour, whether it was met, who missed, the most in a row are as the document's own answer says: for every list of tasks, all ticks, every task, every number in a row (of more than 6 tasks, of more than 300 ticks nothing is asked). -/
import Derived.Test.YtkjboaepeecinaaPSkx15
import Derived.Test.YtkjboaepeecinaaSkRef
import Derived.Test.YtkjboaepeecinaaSkFun
import Derived.Deep.Strs
import Derived.Deep.Slices
import Derived.Deep.Fields
import Derived.ChangeArms
import Derived.DataReads
import Derived.Test.YtkjboaepeecinaaRows
import Derived.WalkKit
import Derived.ProofKit
import Derived.OpenShut
import Derived.ShutString
import Derived.ChangeOld
import Derived.Below
import Derived.SizedLaws
import Derived.Carry
import Derived.Lib.SmallJoins
import Derived.Test.YtkjboaepeecinaaWSized
namespace Go.Proofs.Ytkjboaepeecinaa.Pure
open Go.RowKit Go.Proofs.Ytkjboaepeecinaa.PSk Go.Proofs.YtkjboaepeecinaaW.PrintWords Go.Proofs.YtkjboaepeecinaaW.PrintLast Go.Proofs.YtkjboaepeecinaaW.PrintMore 
set_option linter.unusedVariables false
set_option linter.unusedSimpArgs false

/-! A slice of structs of three whole numbers that came in: the list that it reads as. -/
section
open Go.Deep Go.ChangeShapes Go.WideShapes
variable {H : Type} {enc : TypeId × Value → H} {w : World} {base : Nat} {spare : Nat → Bool} {held : Bool}
theorem st3_cells {P : Program} {k : IntKind} {e ti : TypeId} {f0 f1 f2 : Field} (he : P.underlying e = some (.struct #[f0, f1, f2])) (hone : oneCellFields P #[f0, f1, f2] = true) (hC : P.cellsOf e = 3) (hi : P.underlying ti = some (.int k))
    (t0 : f0.type = ti) (t1 : f1.type = ti) (t2 : f2.type = ti) {fuel : Nat} {cs : List Value} {x : DataW H × List MemPlace} (h : DataW.trod enc P w base spare held fuel e cs = some x) :
    ∃ a b c : Int, cs = [.int k a, .int k b, .int k c] ∧ (Lit.int k a).wf = true ∧ (Lit.int k b).wf = true ∧ (Lit.int k c).wf = true := by
  obtain ⟨y0, y1, y2, n, _, hl, h0, h1, h2⟩ := trod_struct3 he h
  rw [hC] at hl
  match cs, hl with
  | [u, v, z], _ =>
    obtain ⟨o0, k0⟩ := hone_of hone 0 f0 rfl
    obtain ⟨o1, k1⟩ := hone_of hone 1 f1 rfl
    obtain ⟨o2, k2⟩ := hone_of hone 2 f2 rfl
    rw [o0, k0, t0] at h0; rw [o1, k1, t1] at h1; rw [o2, k2, t2] at h2
    obtain ⟨a, ea, _, wa⟩ := DataW.trod_int hi h0
    obtain ⟨b, eb, _, wb⟩ := DataW.trod_int hi h1
    obtain ⟨c, ec, _, wc⟩ := DataW.trod_int hi h2
    simp at ea eb ec
    subst ea eb ec
    exact ⟨a, b, c, rfl, wa, wb, wc⟩
theorem st3_row {P : Program} {k : IntKind} {t e ti : TypeId} {f0 f1 f2 : Field} (ht : P.underlying t = some (.slice e)) (he : P.underlying e = some (.struct #[f0, f1, f2])) (hone : oneCellFields P #[f0, f1, f2] = true) (hC : P.cellsOf e = 3) (hi : P.underlying ti = some (.int k))
    (t0 : f0.type = ti) (t1 : f1.type = ti) (t2 : f2.type = ti) {α : Type} (d : Kd α) (hd : d.sz = 3) (mk : Int → Int → Int → α) (hk : ∀ w a b c, d.K w (mk a b c) [.int k a, .int k b, .int k c])
    {fuel : Nat} {A : Option Addr} {len cap : Nat} {x : DataW H × List MemPlace} (h : DataW.trod enc P w base spare held fuel t [.slice A len cap] = some x) :
    ∃ l : List α, len = l.length ∧ Kd.C d w A l.length l ∧ l.length ≤ cap ∧ l.length ≤ maxLen ∧ ∀ y ∈ l, ∃ a b c, y = mk a b c ∧ (Lit.int k a).wf = true ∧ (Lit.int k b).wf = true ∧ (Lit.int k c).wf = true := by
  rcases open_slice ht h with ⟨h0, _⟩ | ⟨a, len', cap', m, n, D, Pl, hcs, hb, hl, hm, hmm, hx, hi'⟩
  · simp at h0
    obtain ⟨rfl, rfl, rfl⟩ := h0
    exact ⟨[], rfl, ⟨rfl, by simp, fun h => absurd h (by simp)⟩, by simp, by simp, by simp⟩
  · simp at hcs
    obtain ⟨rfl, rfl, rfl⟩ := hcs
    have hmlen : len ≤ m := by rw [hmm]; split <;> omega
    have hall : ∀ i, ∃ y : Int × Int × Int, i < len → (∀ j u, ([.int k y.1, .int k y.2.1, .int k y.2.2] : List Value)[j]? = some u → w.cell? (a.add (i * 3 + j)) = some u) ∧ (Lit.int k y.1).wf = true ∧ (Lit.int k y.2.1).wf = true ∧ (Lit.int k y.2.2).wf = true := by
      intro i
      by_cases hlt : i < len
      · obtain ⟨cs', hc, htr⟩ := hi' i (by omega)
        obtain ⟨p, q, r, rfl, wp, wq, wr⟩ := st3_cells he hone hC hi t0 t1 t2 htr
        rw [hC] at hc
        obtain ⟨_, _, hat⟩ := World.cells?_some hc
        refine ⟨(p, q, r), fun _ => ⟨fun j u hj => ?_, wp, wq, wr⟩⟩
        have hjl : j < 3 := by
          have := (List.getElem?_eq_some_iff.1 hj).1
          simpa using this
        have := hat j hjl
        rw [Go.Deep.add_add] at this
        rw [this]; exact hj
      · exact ⟨(0, 0, 0), fun h => absurd h hlt⟩
    have hY := fun i => Classical.choose_spec (hall i)
    generalize (fun i => Classical.choose (hall i)) = Y at hY
    refine ⟨(List.range len).map fun i => mk (Classical.choose (hall i)).1 (Classical.choose (hall i)).2.1 (Classical.choose (hall i)).2.2, by simp, ?_, by simp; omega, by simp; exact Nat.le_trans hl hm, ?_⟩
    · refine ⟨rfl, by simp; exact Nat.le_trans (Nat.le_trans hl hm) (by unfold maxLen; omega), fun _ => ⟨a, rfl, fun j p hj => ?_⟩⟩
      rw [List.getElem?_map] at hj
      have hjl : j < len := by
        by_cases g : j < len
        · exact g
        · rw [List.getElem?_eq_none (by simp; omega)] at hj; simp at hj
      rw [List.getElem?_eq_getElem (by simpa using hjl)] at hj
      simp at hj
      subst hj
      refine ⟨_, by rw [hd]; rfl, hk w _ _ _, fun i u hu => ?_⟩
      rw [hd]
      exact (Classical.choose_spec (hall j) hjl).1 i u hu
    · intro y hy
      obtain ⟨i, hi2, rfl⟩ := List.mem_map.1 hy
      have hil : i < len := by simpa using hi2
      have := (Classical.choose_spec (hall i) hil).2
      exact ⟨_, _, _, rfl, this⟩
end

def conv (t : S35) : S66 := ⟨t.f0, t.f1, t.f2⟩
theorem tasks_l0 (l : List S35) (hl : l.length ≤ 1000) : ∀ (d k i : Nat), i ≤ l.length → l.length - i = d → d < k → tocsinlaw21_tasks.l0 k l ((l.take i).map conv) (i : Int) = some (l.map conv) := by
  intro d
  induction d with
  | zero =>
    intro k i hi hd hk
    obtain ⟨k, rfl⟩ : ∃ m, k = m + 1 := ⟨k - 1, by omega⟩
    simp only [tocsinlaw21_tasks.l0]
    rw [if_neg (by omega), List.take_of_length_le (by omega)]
  | succ d ih =>
    intro k i hi hd hk
    obtain ⟨k, rfl⟩ : ∃ m, k = m + 1 := ⟨k - 1, by omega⟩
    simp only [tocsinlaw21_tasks.l0]
    have go := ih k (i + 1) (by omega) (by omega) (by omega)
    have hx : rd_T35 l (i : Int) = l[i]'(by omega) := by
      unfold rd_T35
      rw [List.getD_eq_getElem?_getD, show ((i : Int)).toNat = i by omega, List.getElem?_eq_getElem (by omega)]
      rfl
    rw [if_pos (by omega), if_pos (by omega), if_pos (by simp; omega), w64 (x := (i : Int) + 1) (by omega) (by omega), hx]
    rw [List.take_succ_eq_append_getElem (by omega), List.map_append] at go
    exact go
theorem tasks_is (l : List S35) (hl : l.length ≤ 1000) (k : Nat) (hk : 1001 ≤ k) : tocsinlaw21_tasks.f k l = some (l.map conv) := tasks_l0 l hl l.length k 0 (by omega) (by omega) (by omega)
theorem rd69 (M : List S33) (i : Nat) (h : i < M.length) : rd_T69 (M.map cv) (i : Int) = cv (rd_T33 M (i : Int)) := by
  unfold rd_T69 rd_T33
  rw [List.getD_eq_getElem?_getD, List.getD_eq_getElem?_getD, show ((i : Int)).toNat = i by omega, List.getElem?_map, List.getElem?_eq_getElem h]
  rfl
theorem marks_l0 (M : List S33) (hM : M.length ≤ 1000000) : ∀ (d k i : Nat), i ≤ M.length → M.length - i = d → d < k → tocsinlaw21_marks.l0 k M (M.map cv) (i : Int) = some true := by
  intro d
  induction d with
  | zero =>
    intro k i hi hd hk
    obtain ⟨k, rfl⟩ : ∃ m, k = m + 1 := ⟨k - 1, by omega⟩
    simp only [tocsinlaw21_marks.l0]
    rw [if_neg (by omega)]
  | succ d ih =>
    intro k i hi hd hk
    obtain ⟨k, rfl⟩ : ∃ m, k = m + 1 := ⟨k - 1, by omega⟩
    simp only [tocsinlaw21_marks.l0]
    have go := ih k (i + 1) (by omega) (by omega) (by omega)
    rw [if_pos (by omega), if_pos (by omega), if_pos (by rw [List.length_map]; omega), rd69 M i (by omega)]
    generalize rd_T33 M (i : Int) = m at *
    rw [if_pos (show m.f0 = (cv m).f0 from rfl), if_pos (show m.f1 = (cv m).f1 from rfl), if_neg (by simp [cv]), if_neg (by simp [cv]), w64 (x := (i : Int) + 1) (by omega) (by omega)]
    exact go
theorem marks_is (M : List S33) (hM : M.length ≤ 1000000) (k : Nat) (hk : M.length < k) : tocsinlaw21_marks.f k M (M.map cv) = some true := by
  unfold tocsinlaw21_marks.f
  rw [if_pos (by simp)]
  exact marks_l0 M hM M.length k 0 (by omega) (by omega) hk
theorem rmisses_l0 (T : List Int) (M : List S33) (i : Int) (hM : M.length ≤ 1000000) : ∀ (d k q : Nat) (acc : List Int), q ≤ M.length → M.length - q = d → d < k → acc.length ≤ q →
    tocsinref21_Misses.l0 k i acc (q : Int) T (M.map cv) = some (acc ++ missV (ofI i (M.drop q))) := by
  intro d
  induction d with
  | zero =>
    intro k q acc hq hd hk ha
    obtain ⟨k, rfl⟩ : ∃ m, k = m + 1 := ⟨k - 1, by omega⟩
    simp only [tocsinref21_Misses.l0]
    rw [if_neg (by rw [List.length_map]; omega), List.drop_of_length_le (by omega)]
    simp [ofI, missV]
  | succ d ih =>
    intro k q acc hq hd hk ha
    obtain ⟨k, rfl⟩ : ∃ m, k = m + 1 := ⟨k - 1, by omega⟩
    simp only [tocsinref21_Misses.l0]
    rw [if_pos (by rw [List.length_map]; omega), if_pos (by omega), rd69 M q (by omega), w64 (x := (q : Int) + 1) (by omega) (by omega), drop33 M q (by omega)]
    have e : ((q : Int) + 1) = ((q + 1 : Nat) : Int) := by push_cast; rfl
    rw [e]
    have go : ∀ acc' : List Int, acc'.length ≤ q + 1 → tocsinref21_Misses.l0 k i acc' ((q + 1 : Nat) : Int) T (M.map cv) = some (acc' ++ missV (ofI i (M.drop (q + 1)))) := fun acc' h => ih k (q + 1) acc' (by omega) (by omega) (by omega) h
    generalize rd_T33 M (q : Int) = m at *
    have c0 : (cv m).f0 = m.f0 := rfl
    have c1 : (cv m).f1 = m.f1 := rfl
    have c3 : (cv m).f3 = m.f3 := rfl
    rw [c0, c1, c3]
    by_cases h1 : m.f0 = i
    · rw [if_pos h1]
      have eo : ofI i (m :: M.drop (q + 1)) = m :: ofI i (M.drop (q + 1)) := by unfold ofI; rw [List.filter_cons_of_pos (by simpa using h1)]
      rw [eo]
      cases h2 : m.f3 with
      | true =>
        rw [if_pos rfl, go acc (by omega)]
        unfold missV
        rw [List.filter_cons_of_neg (by simp [h2])]
      | false =>
        rw [if_neg (by simp), if_pos (by omega), go _ (by simp; omega)]
        unfold missV
        rw [List.filter_cons_of_pos (by simp [h2])]
        simp
    · rw [if_neg h1, go acc (by omega)]
      unfold ofI
      rw [List.filter_cons_of_neg (by simpa using h1)]
theorem rmisses_is (T : List Int) (M : List S33) (i : Int) (hM : M.length ≤ 1000000) (k : Nat) (hk : M.length < k) : tocsinref21_Misses.f k T (M.map cv) i = some (missV (ofI i M)) := by
  unfold tocsinref21_Misses.f
  exact rmisses_l0 T M i hM M.length k 0 [] (by omega) (by omega) hk (by simp)
def v01 (x : List Bool) : List Int := x.map fun b => if b = true then 0 else 1
theorem v01_bd (x : List Bool) : ∀ a ∈ v01 x, 0 ≤ a ∧ a ≤ 1 := by
  intro a ha
  obtain ⟨b, _, rfl⟩ := List.mem_map.1 ha
  split <;> omega
theorem v01_get (x : List Bool) (q : Nat) (h : q < x.length) : (v01 x)[q]'(by unfold v01; rw [List.length_map]; exact h) = if x[q] = true then 0 else 1 := by
  unfold v01
  rw [List.getElem_map]
theorem rw_l2 (L : Int) (hL : -9223372036854775808 ≤ L ∧ L ≤ 9223372036854775807) (x : List Bool) (hx : x.length ≤ 1000000) (most : Int) (i : Nat) (hi : i ≤ x.length) (r : Option Int) (F : Nat)
    (hend : ∀ k, F ≤ k → tocsinref21_Worst.l1 k L x (max most (psum (v01 x) (min x.length (i + L.toNat)) - psum (v01 x) i)) ((i : Int) + 1) = r) :
    ∀ (d k q : Nat), i ≤ q → q ≤ min x.length (i + L.toNat) → min x.length (i + L.toNat) - q = d → 2 * d + F + 3 < k → tocsinref21_Worst.l2 k L x most (i : Int) (psum (v01 x) q - psum (v01 x) i) (q : Int) = r := by
  intro d
  have hlv : (v01 x).length = x.length := List.length_map ..
  induction d with
  | zero =>
    intro k q hiq hq hd hk
    obtain ⟨k, rfl⟩ : ∃ m, k = m + 1 := ⟨k - 1, by omega⟩
    obtain ⟨k, rfl⟩ : ∃ m, k = m + 1 := ⟨k - 1, by omega⟩
    have he := hend k (by omega)
    have hqe : q = min x.length (i + L.toNat) := by omega
    have hj : tocsinref21_Worst.j3 (k + 1) L x most (i : Int) (psum (v01 x) q - psum (v01 x) i) (q : Int) false = r := by
      simp only [tocsinref21_Worst.j3, Bool.false_eq_true, if_false]
      rw [w64 (x := (i : Int) + 1) (by omega) (by omega), hqe]
      split
      · rw [← he]
        congr 1
        omega
      · rw [← he]
        congr 1
        omega
    simp only [tocsinref21_Worst.l2]
    split
    · rw [w64 (x := (q : Int) - i) (by omega) (by omega), decide_eq_false (by omega)]
      exact hj
    · exact hj
  | succ d ih =>
    intro k q hiq hq hd hk
    obtain ⟨k, rfl⟩ : ∃ m, k = m + 1 := ⟨k - 1, by omega⟩
    obtain ⟨k, rfl⟩ : ∃ m, k = m + 1 := ⟨k - 1, by omega⟩
    have hql : q < x.length := by omega
    have go := ih k (q + 1) (by omega) (by omega) (by omega) (by omega)
    have hs := psum_succ (v01 x) q (by omega)
    have hb1 := psum_bd (v01 x) (v01_bd x) q
    have hb2 := psum_bd (v01 x) (v01_bd x) i
    rw [v01_get x q hql] at hs
    simp only [tocsinref21_Worst.l2]
    rw [if_pos (by omega), w64 (x := (q : Int) - i) (by omega) (by omega), decide_eq_true (by omega)]
    simp only [tocsinref21_Worst.j3, if_true]
    have hr : rdOf false x (q : Int) = x[q] := by
      unfold rdOf
      rw [List.getD_eq_getElem?_getD, show ((q : Int)).toNat = q by omega, List.getElem?_eq_getElem hql]
      rfl
    rw [if_pos (by omega), if_pos (by omega), hr, w64 (x := (q : Int) + 1) (by omega) (by omega)]
    have e : ((q : Int) + 1) = ((q + 1 : Nat) : Int) := by push_cast; rfl
    rw [e]
    by_cases hb : x[q] = true
    · rw [if_pos hb] at hs ⊢
      rw [hs] at go
      rw [← go]
      congr 1
      omega
    · rw [if_neg hb] at hs ⊢
      rw [hs] at go
      rw [w64 (x := psum (v01 x) q - psum (v01 x) i + 1) (by omega) (by omega), ← go]
      congr 1
      omega
theorem rw_l1 (L : Int) (hL : -9223372036854775808 ≤ L ∧ L ≤ 9223372036854775807) (x : List Bool) (hx : x.length ≤ 1000000) (C : Nat) (hC : 2 * x.length + 10 ≤ C) : ∀ (d k i : Nat), i ≤ x.length → x.length - i = d → d * C + 10 < k → tocsinref21_Worst.l1 k L x (refTo (v01 x) L.toNat i) (i : Int) = some (refTo (v01 x) L.toNat x.length) := by
  intro d
  have hlv : (v01 x).length = x.length := List.length_map ..
  induction d with
  | zero =>
    intro k i hi hd hk
    obtain ⟨k, rfl⟩ : ∃ m, k = m + 1 := ⟨k - 1, by omega⟩
    simp only [tocsinref21_Worst.l1]
    rw [if_neg (by omega), show i = x.length by omega]
  | succ d ih =>
    intro k i hi hd hk
    obtain ⟨k, rfl⟩ : ∃ m, k = m + 1 := ⟨k - 1, by omega⟩
    rw [Nat.succ_mul] at hk
    obtain ⟨F, hF⟩ : ∃ F, F = d * C + 11 := ⟨_, rfl⟩
    simp only [tocsinref21_Worst.l1]
    rw [if_pos (by omega)]
    have := rw_l2 L hL x hx (refTo (v01 x) L.toNat i) i (by omega) (some (refTo (v01 x) L.toNat x.length)) F (fun k' hk' => by
      have := ih k' (i + 1) (by omega) (by omega) (by omega)
      rw [show (((i + 1 : Nat)) : Int) = (i : Int) + 1 by push_cast; rfl] at this
      rw [← this]
      congr 1
      simp only [refTo, hlv]) (min x.length (i + L.toNat) - i) k i (Nat.le_refl _) (by omega) rfl (by omega)
    rw [Int.sub_self] at this
    exact this
theorem rworst_l0 (T : List Int) (M : List S33) (i L : Int) (hL : -9223372036854775808 ≤ L ∧ L ≤ 9223372036854775807) (hM : M.length ≤ 1000000) (C : Nat) (hC : 2 * M.length + 10 ≤ C) : ∀ (d k q : Nat) (acc : List S33), q ≤ M.length → M.length - q = d → d + M.length * C + 20 < k → acc.length ≤ q →
    tocsinref21_Worst.l0 k i L (acc.map fun m => m.f3) (q : Int) T (M.map cv) = some (worstV (valV (acc ++ ofI i (M.drop q))) L) := by
  intro d
  induction d with
  | zero =>
    intro k q acc hq hd hk ha
    obtain ⟨k, rfl⟩ : ∃ m, k = m + 1 := ⟨k - 1, by omega⟩
    simp only [tocsinref21_Worst.l0]
    rw [if_neg (by rw [List.length_map]; omega), List.drop_of_length_le (by omega)]
    rw [show acc ++ ofI i [] = acc by simp [ofI]]
    have hlen : (acc.map fun m => m.f3).length = acc.length := List.length_map ..
    have hv : v01 (acc.map fun m => m.f3) = valV acc := by unfold v01 valV; rw [List.map_map]; rfl
    have hmul : acc.length * C ≤ M.length * C := Nat.mul_le_mul_right _ (by omega)
    have := rw_l1 L hL (acc.map fun m => m.f3) (by omega) C (by omega) acc.length k 0 (by omega) (by omega) (by omega)
    rw [hv, hlen] at this
    have e0 : refTo (valV acc) L.toNat 0 = 0 := rfl
    rw [e0] at this
    rw [show ((0 : Nat) : Int) = 0 from rfl] at this
    rw [this]
    congr 1
    have hvl : (valV acc).length = acc.length := List.length_map ..
    unfold worstV
    by_cases hL1 : L < 1
    · rw [if_pos hL1]
      apply Int.le_antisymm
      · refine refTo_le (Int.le_refl _) _ fun p hp => ?_
        rw [show L.toNat = 0 by omega, Nat.add_zero, hvl, show min acc.length p = p by omega]
        omega
      · exact refTo_nonneg _
    · rw [if_neg hL1, ← hvl]
      exact (worst_ref (valV acc) (fun x hx => (valV_bd acc x hx).1) L.toNat (by omega)).symm
  | succ d ih =>
    intro k q acc hq hd hk ha
    obtain ⟨k, rfl⟩ : ∃ m, k = m + 1 := ⟨k - 1, by omega⟩
    simp only [tocsinref21_Worst.l0]
    have hlen : (acc.map fun m => m.f3).length = acc.length := List.length_map ..
    rw [if_pos (by rw [List.length_map]; omega), if_pos (by omega), rd69 M q (by omega), w64 (x := (q : Int) + 1) (by omega) (by omega), drop33 M q (by omega)]
    have e : ((q : Int) + 1) = ((q + 1 : Nat) : Int) := by push_cast; rfl
    rw [e]
    have go : ∀ acc' : List S33, acc'.length ≤ q + 1 → tocsinref21_Worst.l0 k i L (acc'.map fun m => m.f3) ((q + 1 : Nat) : Int) T (M.map cv) = some (worstV (valV (acc' ++ ofI i (M.drop (q + 1)))) L) := fun acc' h => ih k (q + 1) acc' (by omega) (by omega) (by omega) h
    generalize rd_T33 M (q : Int) = m at *
    have c0 : (cv m).f0 = m.f0 := rfl
    have c3 : (cv m).f3 = m.f3 := rfl
    rw [c0, c3]
    by_cases h1 : m.f0 = i
    · rw [if_pos h1, if_pos (by omega)]
      have eo : ofI i (m :: M.drop (q + 1)) = m :: ofI i (M.drop (q + 1)) := by unfold ofI; rw [List.filter_cons_of_pos (by simpa using h1)]
      have g1 := go (acc ++ [m]) (by simp; omega)
      rw [List.append_assoc, List.map_append] at g1
      rw [eo]
      exact g1
    · rw [if_neg h1, go acc (by omega)]
      unfold ofI
      rw [List.filter_cons_of_neg (by simpa using h1)]
theorem rworst_is (T : List Int) (M : List S33) (i L : Int) (hL : -9223372036854775808 ≤ L ∧ L ≤ 9223372036854775807) (hM : M.length ≤ 1000000) (k : Nat) (hk : 9223372036854775900 ≤ k) : tocsinref21_Worst.f k T (M.map cv) i L = some (worstV (valV (ofI i M)) L) := by
  unfold tocsinref21_Worst.f
  have hmul := Nat.mul_le_mul hM (show 2 * M.length + 10 ≤ 2000010 by omega)
  exact rworst_l0 T M i L hL hM (2 * M.length + 10) (Nat.le_refl _) M.length k 0 [] (by omega) (by omega) (by omega) (by simp)
theorem runs (l : List S35) (b : Bool) (t i L : Int) (hL : -9223372036854775808 ≤ L ∧ L ≤ 9223372036854775807) (k : Nat) (hk : 9223372036854775990 ≤ k) : tocsinlaw21_SkipRuns.f k l b t i L = some true := by
  unfold tocsinlaw21_SkipRuns.f
  rw [awake_is k (by omega), light_is k (by omega)]
  simp only [Option.bind_some, if_true]
  by_cases hq : lightS l t = true
  · have hb := lightS_bd hq
    rw [if_pos hq, tasks_is l (by omega) k (by omega)]
    have key : ∃ T M e, T.length ≤ 1000000 ∧ M.length ≤ 1000000 ∧ skip_Run.f l b t = some (T, M, e) ∧ tocsinref21_Run.f (l.map conv) b t = some (T, M.map cv, e) := by
      have e1 : (l.map conv).map qR = l.map qT := by rw [List.map_map]; rfl
      have e2 : (l.map conv).map iniR = l.map iniT := by rw [List.map_map]; rfl
      unfold tocsinref21_Run.f skip_Run.f
      rw [e1, e2]
      by_cases q1 : t < 0 ∨ 10000 < t
      · rw [if_pos q1, if_pos q1]
        exact ⟨[], [], 1, by simp, by simp, rfl, rfl⟩
      · rw [if_neg q1, if_neg q1]
        by_cases q2 : (holdsS (l.map qT)).2 ≠ 0
        · rw [if_pos q2, if_pos q2]
          exact ⟨[], [], _, by simp, by simp, rfl, rfl⟩
        · rw [if_neg q2, if_neg q2]
          by_cases q3 : (holdsS (l.map qT)).1 = false
          · rw [if_pos q3, if_pos q3]
            exact ⟨[], [], 9, by simp, by simp, rfl, rfl⟩
          · rw [if_neg q3, if_neg q3]
            obtain ⟨h1, h2⟩ := run_len (l := l) ⟨by omega, by simpa using q3⟩ b t (by omega) (by omega)
            exact ⟨_, _, 0, by omega, by omega, rfl, rfl⟩
    obtain ⟨T, M, e, hT, hM, h1, h2⟩ := key
    rw [h1]
    simp only [Option.bind_some]
    rw [h2]
    simp only [Option.bind_some, if_true]
    have hlm : (missV (ofI i M)).length ≤ 1000000 := by
      unfold missV ofI
      rw [List.length_map]
      exact Nat.le_trans (List.length_filter_le ..) (Nat.le_trans (List.length_filter_le ..) hM)
    rw [ints_same T hT k (by omega), marks_is M hM k (by omega)]
    simp only [Option.bind_some, if_true]
    rw [misses_is T M i hM k (by omega)]
    simp only [Option.bind_some]
    rw [rmisses_is T M i hM k (by omega)]
    simp only [Option.bind_some]
    rw [ints_same _ hlm k (by omega)]
    simp only [Option.bind_some, if_true]
    rw [worst_is T M i L hM k (by omega)]
    simp only [Option.bind_some]
    rw [rworst_is T M i L hL hM k (by omega)]
    simp
  · rw [if_neg hq]
theorem own : ownKnob Try.prog.godebug = none := by kernel_rfl
theorem Try.laidOut : laidOutB Try.prog = true := by kernel_rfl
open Go.ChangeShapes Go.WideShapes Go.ChangeAt Go.RowKit
open Go.ChangeMaps (open_string shut_string)
set_option maxRecDepth 100000 in
theorem lifted (os : Os) (started : os.Started) (H : Type) (enc : TypeId × Value → H) :
    ReturnsInHanded {} Try.checked os 7 .any (Rows.skipRunsSpec.pre6 enc Try.prog Try.f7 Rows.skipRunsRow.domain false) (Rows.skipRunsSpec.post enc Try.prog Try.f7 false true false false) := by
  refine returnsInHanded_of_change_sized (C := Try.checked) own started (by kernel_rfl) Try.func7
    (ChangeSpec.witness6 (enc := enc) (C := Try.checked) false ⟨#[], #[.slice none 0 0, .bool false, .int .i64 0, .int .i64 0, .int .i64 0], []⟩ 8 (by kernel_rfl) (by kernel_rfl) (by kernel_rfl) (by kernel_rfl)) ?_
  intro W base args ds gs before hval0 hW hcnd hsz0 _
  have hsz : (DataW.weightsEach Try.prog (Try.f7.params.toList ++ Rows.skipRunsSpec.plain.varTypes Try.prog) (ds ++ gs)).all (· ≤ reachBytes) = true := hsz0
  have hval : ∀ (j : Nat) t v, Try.f7.params[j]? = some t → args[j]? = some v → Value.okWide Try.prog W .any base t v := hval0
  have hW' := hW
  obtain ⟨p, q, hA0, hV, rfl, hfz, hnd⟩ := hW
  have hA : DataW.TrodAll enc Try.prog W 0 (fun _ => true) true Try.f7.params.toList args.toList ds p := hA0
  rw [Try.params7] at hA hval hsz
  obtain ⟨v0, vs0, d0, ds0, p0, q0, hargs, rfl, rfl, h0, r0⟩ := trodAll_cons hA
  obtain ⟨v1, vs1, d1, ds1, p1, q1, rfl, rfl, rfl, h1, r1⟩ := trodAll_cons r0
  obtain ⟨v2, vs2, d2, ds2, p2, q2, rfl, rfl, rfl, h2, r2⟩ := trodAll_cons r1
  obtain ⟨v3, vs3, d3, ds3, p3, q3, rfl, rfl, rfl, h3, r3⟩ := trodAll_cons r2
  obtain ⟨v4, vs4, d4, ds4, p4, q4, rfl, rfl, rfl, h4, r4⟩ := trodAll_cons r3
  obtain ⟨rfl, rfl, rfl⟩ := trodAll_nil r4
  obtain rfl : args = #[v0, v1, v2, v3, v4] := by cases args; simp_all
  obtain ⟨rfl, rfl⟩ := trodVars_none hV
  have k0 := h0
  have k1 := h1
  have k2 := h2
  have k3 := h3
  have k4 := h4
  have lt0 : ∀ x ∈ p0, x.block < W.heap.size := by obtain ⟨m, hm⟩ := k0; exact DataW.trod_lt m _ _ _ hm
  have lt1 : ∀ x ∈ p1, x.block < W.heap.size := by obtain ⟨m, hm⟩ := k1; exact DataW.trod_lt m _ _ _ hm
  have lt2 : ∀ x ∈ p2, x.block < W.heap.size := by obtain ⟨m, hm⟩ := k2; exact DataW.trod_lt m _ _ _ hm
  have lt3 : ∀ x ∈ p3, x.block < W.heap.size := by obtain ⟨m, hm⟩ := k3; exact DataW.trod_lt m _ _ _ hm
  have lt4 : ∀ x ∈ p4, x.block < W.heap.size := by obtain ⟨m, hm⟩ := k4; exact DataW.trod_lt m _ _ _ hm
  obtain ⟨a0, len0, cap0, rfl⟩ := okWide_slice Try.underlying22 (hval 0 22 v0 rfl rfl)
  obtain ⟨fuel0, hf0⟩ := h0
  obtain ⟨l0, rfl, hr0, hc0, hm0, hw0⟩ := st3_row Try.underlying22 Try.underlying35 (by kernel_rfl) (by kernel_rfl) Try.underlying3 rfl rfl rfl k35 rfl (fun a b c => (⟨a, b, c⟩ : S35)) (fun w a b c => k35_mk w ⟨a, b, c⟩) (by simpa [Value.cells] using hf0)
  obtain ⟨a1, rfl, rfl, rfl⟩ := open_bool Try.underlying4 (hval 1 4 v1 rfl rfl) h1
  obtain ⟨a2, rfl, rfl, rfl, w2⟩ := open_int Try.underlying3 (hval 2 3 v2 rfl rfl) h2
  obtain ⟨a3, rfl, rfl, rfl, w3⟩ := open_int Try.underlying3 (hval 3 3 v3 rfl rfl) h3
  obtain ⟨a4, rfl, rfl, rfl, w4⟩ := open_int Try.underlying3 (hval 4 3 v4 rfl rfl) h4
  clear hA0 hval0 hsz0 hsz
  refine (tocsinlaw21_SkipRuns.calls 9223372036854775990 a0 cap0 l0 a1 a2 a3 a4 true W hr0 hc0 (runs l0 a1 a2 a3 a4 (wf_i64 w4) 9223372036854775990 (by omega)) rfl).mono fun e W' ⟨he, bel⟩ => ?_
  subst he
  exact ⟨_, rfl, _, _, _, _, _, [], hW', trodAll_mk1 (shut_bool Try.underlying4 _), (trodAll_cons_mk (Below.trod Try.laidOut (by kernel_rfl) (of_decide_eq_true (by kernel_rfl)) k0 bel lt0) (trodAll_cons_mk (Below.trod Try.laidOut (by kernel_rfl) (of_decide_eq_true (by kernel_rfl)) k1 bel lt1) (trodAll_cons_mk (Below.trod Try.laidOut (by kernel_rfl) (of_decide_eq_true (by kernel_rfl)) k2 bel lt2) (trodAll_cons_mk (Below.trod Try.laidOut (by kernel_rfl) (of_decide_eq_true (by kernel_rfl)) k3 bel lt3) (trodAll_cons_mk (Below.trod Try.laidOut (by kernel_rfl) (of_decide_eq_true (by kernel_rfl)) k4 bel lt4) trodAll_mk0))))), rfl, bel.frame _, fun h => by cases h⟩
theorem over : Rows.skipRunsRow.holds Try.pinned (OpenSpec.ofChange Rows.skipRunsSpec) :=
  OpenClaim.holds_of_wide 7 Try.f7 rfl rfl rfl rfl rfl rfl rfl ⟨rfl, rfl, rfl, rfl, rfl⟩ rfl rfl rfl rfl rfl (by kernel_rfl) Try.func7 (by kernel_rfl)
    (of_decide_eq_true (by kernel_rfl)) (by unfold Func.isWrapper; first | (rw [if_pos (by decide +kernel)]; kernel_rfl) | (rw [if_neg (by decide +kernel)]; exact ⟨rfl, rfl⟩))
    (fun os started H enc _ => lifted os started H enc)
end Go.Proofs.Ytkjboaepeecinaa.Pure
namespace Go.Proofs.Ytkjboaepeecinaa
/-- The row, under a short name, for the claim. -/
theorem skipRuns_holds : Rows.SkipRunsSaid := Pure.over
end Go.Proofs.Ytkjboaepeecinaa
#print axioms Go.Proofs.Ytkjboaepeecinaa.skipRuns_holds
namespace Go.Proofs.Ytkjboaepeecinaa.Pure

end Go.Proofs.Ytkjboaepeecinaa.Pure
