/- Either way each task's jobs end one by one, as many as its periods tell: for every list of tasks, all ticks (of more than 6 tasks, of more than 300 ticks nothing is asked). -/
import Derived.Test.YtkjboaepeecinaaPSkx7
import Derived.Test.YtkjboaepeecinaaSkFun
import Derived.Test.YtkjboaepeecinaaSkAsk
import Derived.Deep.Strs
import Derived.Deep.Slices
import Derived.Deep.Fields
import Derived.ChangeArms
import Derived.DataReads
import Derived.Test.YtkjboaepeecinaaRows
import Derived.WalkKit
import Derived.ProofKit
import Derived.OpenShut
import Derived.ShutString
import Derived.ChangeOld
import Derived.Below
import Derived.SizedLaws
import Derived.Carry
import Derived.Lib.SmallJoins
import Derived.Test.YtkjboaepeecinaaWSized
namespace Go.Proofs.Ytkjboaepeecinaa.Pure
open Go.RowKit Go.Proofs.Ytkjboaepeecinaa.PSk Go.Proofs.YtkjboaepeecinaaW.PrintWords Go.Proofs.YtkjboaepeecinaaW.PrintLast Go.Proofs.YtkjboaepeecinaaW.PrintMore 
set_option linter.unusedVariables false
set_option linter.unusedSimpArgs false

/-! A slice of structs of three whole numbers that came in: the list that it reads as. -/
section
open Go.Deep Go.ChangeShapes Go.WideShapes
variable {H : Type} {enc : TypeId × Value → H} {w : World} {base : Nat} {spare : Nat → Bool} {held : Bool}
theorem st3_cells {P : Program} {k : IntKind} {e ti : TypeId} {f0 f1 f2 : Field} (he : P.underlying e = some (.struct #[f0, f1, f2])) (hone : oneCellFields P #[f0, f1, f2] = true) (hC : P.cellsOf e = 3) (hi : P.underlying ti = some (.int k))
    (t0 : f0.type = ti) (t1 : f1.type = ti) (t2 : f2.type = ti) {fuel : Nat} {cs : List Value} {x : DataW H × List MemPlace} (h : DataW.trod enc P w base spare held fuel e cs = some x) :
    ∃ a b c : Int, cs = [.int k a, .int k b, .int k c] ∧ (Lit.int k a).wf = true ∧ (Lit.int k b).wf = true ∧ (Lit.int k c).wf = true := by
  obtain ⟨y0, y1, y2, n, _, hl, h0, h1, h2⟩ := trod_struct3 he h
  rw [hC] at hl
  match cs, hl with
  | [u, v, z], _ =>
    obtain ⟨o0, k0⟩ := hone_of hone 0 f0 rfl
    obtain ⟨o1, k1⟩ := hone_of hone 1 f1 rfl
    obtain ⟨o2, k2⟩ := hone_of hone 2 f2 rfl
    rw [o0, k0, t0] at h0; rw [o1, k1, t1] at h1; rw [o2, k2, t2] at h2
    obtain ⟨a, ea, _, wa⟩ := DataW.trod_int hi h0
    obtain ⟨b, eb, _, wb⟩ := DataW.trod_int hi h1
    obtain ⟨c, ec, _, wc⟩ := DataW.trod_int hi h2
    simp at ea eb ec
    subst ea eb ec
    exact ⟨a, b, c, rfl, wa, wb, wc⟩
theorem st3_row {P : Program} {k : IntKind} {t e ti : TypeId} {f0 f1 f2 : Field} (ht : P.underlying t = some (.slice e)) (he : P.underlying e = some (.struct #[f0, f1, f2])) (hone : oneCellFields P #[f0, f1, f2] = true) (hC : P.cellsOf e = 3) (hi : P.underlying ti = some (.int k))
    (t0 : f0.type = ti) (t1 : f1.type = ti) (t2 : f2.type = ti) {α : Type} (d : Kd α) (hd : d.sz = 3) (mk : Int → Int → Int → α) (hk : ∀ w a b c, d.K w (mk a b c) [.int k a, .int k b, .int k c])
    {fuel : Nat} {A : Option Addr} {len cap : Nat} {x : DataW H × List MemPlace} (h : DataW.trod enc P w base spare held fuel t [.slice A len cap] = some x) :
    ∃ l : List α, len = l.length ∧ Kd.C d w A l.length l ∧ l.length ≤ cap ∧ l.length ≤ maxLen ∧ ∀ y ∈ l, ∃ a b c, y = mk a b c ∧ (Lit.int k a).wf = true ∧ (Lit.int k b).wf = true ∧ (Lit.int k c).wf = true := by
  rcases open_slice ht h with ⟨h0, _⟩ | ⟨a, len', cap', m, n, D, Pl, hcs, hb, hl, hm, hmm, hx, hi'⟩
  · simp at h0
    obtain ⟨rfl, rfl, rfl⟩ := h0
    exact ⟨[], rfl, ⟨rfl, by simp, fun h => absurd h (by simp)⟩, by simp, by simp, by simp⟩
  · simp at hcs
    obtain ⟨rfl, rfl, rfl⟩ := hcs
    have hmlen : len ≤ m := by rw [hmm]; split <;> omega
    have hall : ∀ i, ∃ y : Int × Int × Int, i < len → (∀ j u, ([.int k y.1, .int k y.2.1, .int k y.2.2] : List Value)[j]? = some u → w.cell? (a.add (i * 3 + j)) = some u) ∧ (Lit.int k y.1).wf = true ∧ (Lit.int k y.2.1).wf = true ∧ (Lit.int k y.2.2).wf = true := by
      intro i
      by_cases hlt : i < len
      · obtain ⟨cs', hc, htr⟩ := hi' i (by omega)
        obtain ⟨p, q, r, rfl, wp, wq, wr⟩ := st3_cells he hone hC hi t0 t1 t2 htr
        rw [hC] at hc
        obtain ⟨_, _, hat⟩ := World.cells?_some hc
        refine ⟨(p, q, r), fun _ => ⟨fun j u hj => ?_, wp, wq, wr⟩⟩
        have hjl : j < 3 := by
          have := (List.getElem?_eq_some_iff.1 hj).1
          simpa using this
        have := hat j hjl
        rw [Go.Deep.add_add] at this
        rw [this]; exact hj
      · exact ⟨(0, 0, 0), fun h => absurd h hlt⟩
    have hY := fun i => Classical.choose_spec (hall i)
    generalize (fun i => Classical.choose (hall i)) = Y at hY
    refine ⟨(List.range len).map fun i => mk (Classical.choose (hall i)).1 (Classical.choose (hall i)).2.1 (Classical.choose (hall i)).2.2, by simp, ?_, by simp; omega, by simp; exact Nat.le_trans hl hm, ?_⟩
    · refine ⟨rfl, by simp; exact Nat.le_trans (Nat.le_trans hl hm) (by unfold maxLen; omega), fun _ => ⟨a, rfl, fun j p hj => ?_⟩⟩
      rw [List.getElem?_map] at hj
      have hjl : j < len := by
        by_cases g : j < len
        · exact g
        · rw [List.getElem?_eq_none (by simp; omega)] at hj; simp at hj
      rw [List.getElem?_eq_getElem (by simpa using hjl)] at hj
      simp at hj
      subst hj
      refine ⟨_, by rw [hd]; rfl, hk w _ _ _, fun i u hu => ?_⟩
      rw [hd]
      exact (Classical.choose_spec (hall j) hjl).1 i u hu
    · intro y hy
      obtain ⟨i, hi2, rfl⟩ := List.mem_map.1 hy
      have hil : i < len := by simpa using hi2
      have := (Classical.choose_spec (hall i) hil).2
      exact ⟨_, _, _, rfl, this⟩
end

/-- Two runs of the same tasks, with and without blue ones: the same numbers of jobs. -/
theorem same_n : ∀ (S : List St) (S' : List St), S.length = S'.length → (∀ (i : Nat) (x y : St), S[i]? = some x → S'[i]? = some y → x.p = y.p ∧ x.n = y.n) → ∀ (k : Int) (j : Nat), (mkl k j S).length = (mkl k j S').length
  | [], [], _, _, _, _ => rfl
  | [], _ :: _, h, _, _, _ => by simp at h
  | _ :: _, [], h, _, _, _ => by simp at h
  | x :: l, y :: l', h, hs, k, j => by
    have h1 := hs 0 x y rfl rfl
    have ih := same_n l l' (by simpa using h) (fun i a b ha hb => hs (i + 1) a b (by simpa using ha) (by simpa using hb)) k (j + 1)
    have h2 : (mq k j x).length = (mq k j y).length := by
      unfold mq markS
      rw [h1.1, h1.2]
      split <;> (try split) <;> rfl
    simp only [mkl, List.length_append]
    omega
theorem okS_n {b c : Bool} {k : Int} {x y : St} (h : okS b k x) (h' : okS c k y) (hp : x.p = y.p) : x.n = y.n := by
  obtain ⟨h1, _, _, _, h5, h6, h7, _⟩ := h
  obtain ⟨_, _, _, _, g5, g6, g7, _⟩ := h'
  rw [h5] at h6 h7
  rw [g5, ← hp] at g6 g7
  have e1 : x.n + 1 < y.n + 1 + 1 := Int.lt_of_mul_lt_mul_right (a := x.p) (by rw [Int.add_mul (y.n + 1), Int.one_mul]; omega) (by omega)
  have e2 : y.n + 1 < x.n + 1 + 1 := Int.lt_of_mul_lt_mul_right (a := x.p) (by rw [Int.add_mul (x.n + 1), Int.one_mul]; omega) (by omega)
  omega
theorem same_len (S0 : List St) (h0 : ∀ b, ∀ x ∈ S0, okS b 0 x) : ∀ k : Nat, (runTo false S0 k).M.length = (runTo true S0 k).M.length
  | 0 => rfl
  | k + 1 => by
    have ih := same_len S0 h0 k
    have hok1 := run_okS false S0 (h0 false) k
    have hok2 := run_okS true S0 (h0 true) k
    have hl1 := runTo_len false S0 k
    have hl2 := runTo_len true S0 k
    have ha1 := run_alike false S0 k
    have ha2 := run_alike true S0 k
    rw [runTo, runTo]
    simp only [stepS, List.length_append]
    rw [ih, same_n (runTo false S0 k).S (runTo true S0 k).S (by omega) (fun i x y hx hy => ?_) k 0]
    have hi : i < S0.length := by have := (List.getElem?_eq_some_iff.1 hx).1; omega
    have e1 := (ha1 i x hx _ (List.getElem?_eq_getElem hi)).1
    have e2 := (ha2 i y hy _ (List.getElem?_eq_getElem hi)).1
    have ep : x.p = y.p := e1.trans e2.symm
    exact ⟨ep, okS_n (hok1 x (List.mem_of_getElem? hx)) (hok2 y (List.mem_of_getElem? hy)) ep⟩
/-- How many jobs have ended behind k ticks. -/
theorem okS_count {b : Bool} {k : Int} {x : St} (h : okS b k x) (hk : 0 < k) : x.n = (k - 1) / x.p := by
  obtain ⟨h1, _, _, h4, h5, h6, h7, _⟩ := h
  rw [h5] at h6 h7
  have e : (x.n + 1) * x.p = x.n * x.p + x.p := by rw [Int.add_mul, Int.one_mul]
  rw [e] at h6 h7
  have e1 : x.n ≤ (k - 1) / x.p := Int.le_ediv_of_mul_le (by omega) (by omega)
  have e2 : (k - 1) / x.p < x.n + 1 := Int.ediv_lt_of_lt_mul (by omega) (by rw [e]; omega)
  omega
theorem blue_l1 (l : List S35) (t : Int) (T T' : List Int) (M M' : List S33) (hM : M'.length ≤ 1000000) (i : Nat) (hi : i < l.length) (hnum : ∀ (j : Nat) (m : S33), (ofI i M')[j]? = some m → m.f1 = j) (r : Option Bool) (F : Nat)
    (hend : ∀ k, F ≤ k → tocsinlaw21_SkipBlue.j3 k l t (i : Int) ((ofI i M').length : Int) 0 (decide (0 < t) && decide ((rd_T35 l (i : Int)).f0 > 0)) T M T' M' = r) :
    ∀ (d k q : Nat), q ≤ M'.length → M'.length - q = d → d + F + 1 < k → tocsinlaw21_SkipBlue.l1 k l t (i : Int) ((ofI i (M'.take q)).length : Int) (q : Int) T M T' M' = r := by
  intro d
  induction d with
  | zero =>
    intro k q hq hd hk
    obtain ⟨k, rfl⟩ : ∃ m, k = m + 1 := ⟨k - 1, by omega⟩
    simp only [tocsinlaw21_SkipBlue.l1]
    have he := hend k (by omega)
    rw [if_neg (by omega), List.take_of_length_le (by omega)]
    by_cases ht : t > 0
    · rw [if_pos ht, if_pos (by omega), if_pos (by omega)]
      rw [decide_eq_true ht, Bool.true_and] at he
      exact he
    · rw [if_neg ht]
      rw [decide_eq_false ht, Bool.false_and] at he
      exact he
  | succ d ih =>
    intro k q hq hd hk
    obtain ⟨k, rfl⟩ : ∃ m, k = m + 1 := ⟨k - 1, by omega⟩
    simp only [tocsinlaw21_SkipBlue.l1]
    have go := ih k (q + 1) (by omega) (by omega) (by omega)
    have hql : q < M'.length := by omega
    have hm : rd_T33 M' (q : Int) = M'[q] := by
      unfold rd_T33
      rw [List.getD_eq_getElem?_getD, show ((q : Int)).toNat = q by omega, List.getElem?_eq_getElem hql]
      rfl
    have htk : ofI i (M'.take (q + 1)) = ofI i (M'.take q) ++ ofI i [M'[q]] := by
      rw [List.take_succ_eq_append_getElem hql]
      exact List.filter_append ..
    have hsplit : ofI i M' = ofI i (M'.take (q + 1)) ++ ofI i (M'.drop (q + 1)) := by
      have := List.filter_append (p := fun m : S33 => decide (m.f0 = (i : Int))) (M'.take (q + 1)) (M'.drop (q + 1))
      rw [List.take_append_drop] at this
      exact this
    have hll : (ofI i (M'.take q)).length ≤ q := Nat.le_trans (List.length_filter_le ..) (by simp; omega)
    rw [if_pos (by omega), if_pos (by omega), hm, w64 (x := (q : Int) + 1) (by omega) (by omega)]
    have eq1 : ((q : Int) + 1) = ((q + 1 : Nat) : Int) := by push_cast; rfl
    rw [eq1]
    by_cases h0 : (M'[q]).f0 = (i : Int)
    · have h2 : ofI i [M'[q]] = [M'[q]] := by unfold ofI; simp [h0]
      have h1 := hnum (ofI i (M'.take q)).length M'[q] (by
        rw [hsplit, htk, h2, List.append_assoc, List.getElem?_append_right (Nat.le_refl _)]
        simp)
      rw [if_pos h0, if_pos h1, w64 (x := ((ofI i (M'.take q)).length : Int) + 1) (by omega) (by omega)]
      rw [htk, h2, List.length_append] at go
      have : ((ofI i (M'.take q)).length : Int) + 1 = (((ofI i (M'.take q)).length + [M'[q]].length : Nat) : Int) := by simp
      rw [this]
      exact go
    · have h2 : ofI i [M'[q]] = [] := by unfold ofI; simp [h0]
      rw [if_neg h0]
      rw [htk, h2, List.append_nil] at go
      exact go
set_option maxRecDepth 100000 in
theorem blue_l0 (l : List S35) (t : Int) (ht0 : 0 ≤ t) (ht : t ≤ 10000) (hl : l.length ≤ 20) (T T' : List Int) (M M' : List S33) (hM : M'.length ≤ 1000000) (hT : T.length = T'.length) (hMM : M.length = M'.length)
    (hp : ∀ (i : Nat), i < l.length → 1 ≤ (rd_T35 l (i : Int)).f0 ∧ (rd_T35 l (i : Int)).f0 ≤ 10000)
    (hnum : ∀ (i : Nat), i < l.length → ∀ (j : Nat) (m : S33), (ofI i M')[j]? = some m → m.f1 = j)
    (hcnt : ∀ (i : Nat), i < l.length → ((ofI i M').length : Int) = if 0 < t then (t - 1) / (rd_T35 l (i : Int)).f0 else 0) :
    ∀ (C : Nat), M'.length + 1000 ≤ C → ∀ (d k i : Nat), i ≤ l.length → l.length - i = d → d * C + 1000 < k → tocsinlaw21_SkipBlue.l0 k l t (i : Int) T M T' M' = some true := by
  intro C hC d
  induction d with
  | zero =>
    intro k i hi hd hk
    obtain ⟨k, rfl⟩ : ∃ m, k = m + 1 := ⟨k - 1, by omega⟩
    simp only [tocsinlaw21_SkipBlue.l0]
    rw [if_neg (by omega), if_pos (by omega), hT]
    simp
  | succ d ih =>
    intro k i hi hd hk
    obtain ⟨k, rfl⟩ : ∃ m, k = m + 1 := ⟨k - 1, by omega⟩
    simp only [tocsinlaw21_SkipBlue.l0]
    rw [Nat.succ_mul] at hk
    rw [if_pos (by omega)]
    have hpi := hp i (by omega)
    have hci := hcnt i (by omega)
    obtain ⟨F, hF⟩ : ∃ F, F = d * C + 1000 := ⟨_, rfl⟩
    have step : ∀ k', F < k' → tocsinlaw21_SkipBlue.l0 k' l t ((i : Int) + 1) T M T' M' = some true := fun k' hk' => ih k' (i + 1) (by omega) (by omega) (by omega)
    have hkF : F + (M'.length + 900) < k := by omega
    clear hk hF ih
    refine blue_l1 l t T T' M M' hM i (by omega) (hnum i (by omega)) (some true) (F + 3) (fun k' hk' => ?_) M'.length k 0 (by omega) (by omega) (by omega)
    obtain ⟨k', rfl⟩ : ∃ m, k' = m + 1 := ⟨k' - 1, by omega⟩
    simp only [tocsinlaw21_SkipBlue.j3]
    rw [w64 (x := (i : Int) + 1) (by omega) (by omega), step k' (by omega)]
    generalize (rd_T35 l (i : Int)).f0 = p at *
    rw [decide_eq_true (show p > 0 by omega), Bool.and_true]
    by_cases ht2 : 0 < t
    · rw [if_pos ht2] at hci
      rw [decide_eq_true ht2, if_pos rfl, if_pos (by omega), if_pos (by omega), if_neg (by omega), w64 (x := t - 1) (by omega) (by omega), Int.tdiv_eq_ediv_of_nonneg (by omega)]
      have hq1 : 0 ≤ (t - 1) / p := Int.ediv_nonneg (by omega) (by omega)
      have hq2 : (t - 1) / p ≤ t - 1 := Int.ediv_le_self _ (by omega)
      rw [w64 (x := (t - 1) / p) (by omega) (by omega), if_pos hci]
    · rw [if_neg ht2] at hci
      rw [decide_eq_false ht2, if_neg (by simp), if_pos hci]
theorem blue (l : List S35) (t : Int) (k : Nat) (hk : 9223372036854775990 ≤ k) : tocsinlaw21_SkipBlue.f k l t = some true := by
  unfold tocsinlaw21_SkipBlue.f
  rw [awake_is k (by omega), light_is k (by omega)]
  simp only [Option.bind_some, if_true]
  by_cases hL : lightS l t = true
  · have hb := lightS_bd hL
    rw [if_pos hL]
    have err : ∀ (k : Nat) (e : Int) (T T' : List Int) (M M' : List S33), 1 ≤ k → tocsinlaw21_SkipBlue.j0 k l t e e true T M T' M' = some true := fun k e T T' M M' hk => by
      obtain ⟨k, rfl⟩ : ∃ m, k = m + 1 := ⟨k - 1, by omega⟩
      simp only [tocsinlaw21_SkipBlue.j0, if_true]
      simp
    by_cases ht : t < 0
    · rw [run_neg l false t ht, run_neg l true t ht]
      exact err k 1 _ _ _ _ (by omega)
    by_cases hH : heldS l
    · rw [run_ok l false t (by omega) (by omega) hH, run_ok l true t (by omega) (by omega) hH]
      simp only [Option.bind_some, if_true]
      rw [show ((0 : Int) != 0) = false by decide]
      obtain ⟨k, rfl⟩ : ∃ m, k = m + 1 := ⟨k - 1, by omega⟩
      simp only [tocsinlaw21_SkipBlue.j0, Bool.false_eq_true, if_false]
      obtain ⟨hl1, hl2⟩ := run_len hH false t (by omega) (by omega)
      obtain ⟨hl3, hl4⟩ := run_len hH true t (by omega) (by omega)
      obtain ⟨ok0, ini0⟩ := held_ini hH true
      have hmi := run_minv true (l.map iniT) ok0 ini0 t.toNat
      have hok := run_okS true (l.map iniT) ok0 t.toNat
      have hsl := runTo_len true (l.map iniT) t.toNat
      have hal := run_alike true (l.map iniT) t.toNat
      have hsame := same_len (l.map iniT) (fun b => (held_ini hH b).1) t.toNat
      have hn0 : t = 0 → (runTo true (l.map iniT) t.toNat).M = [] := fun h => by subst h; rfl
      rw [List.length_map] at hsl
      have hg := (held_ok hH).2.1
      have hll := (held_ok hH).1
      generalize runTo true (l.map iniT) t.toNat = r at *
      generalize runTo false (l.map iniT) t.toNat = r' at *
      have key : ∀ (i : Nat), i < l.length → ∃ x, r.S[i]? = some x ∧ MInv true x (ofT i r.M) ∧ okS true (t.toNat : Int) x ∧ x.p = (rd_T35 l (i : Int)).f0 := fun i hi => by
        have hx : r.S[i]? = some (r.S[i]'(by omega)) := List.getElem?_eq_getElem _
        refine ⟨_, hx, hmi i _ hx, hok _ (List.mem_of_getElem? hx), (hal i _ hx (iniT (rd_T35 l (i : Int))) ?_).1⟩
        rw [List.getElem?_map, List.getElem?_eq_getElem hi]
        unfold rd_T35
        rw [List.getD_eq_getElem?_getD, show ((i : Int)).toNat = i by omega, List.getElem?_eq_getElem hi]
        rfl
      refine blue_l0 l t (by omega) (by omega) hll r'.T r.T r'.M r.M (by omega) (by omega) hsame (fun i hi => ?_) (fun i hi j m hj => ?_) (fun i hi => ?_) 201000 (by omega) l.length k 0 (by omega) (by omega) ?_
      · have hmem : rd_T35 l (i : Int) ∈ l := by
          unfold rd_T35
          rw [List.getD_eq_getElem?_getD, show ((i : Int)).toNat = i by omega, List.getElem?_eq_getElem hi]
          exact List.getElem_mem _
        have := goodTB_iff (hg _ hmem)
        omega
      · obtain ⟨x, hx, hmv, _, _⟩ := key i hi
        exact hmv.num j m hj
      · obtain ⟨x, hx, hmv, ho, hxp⟩ := key i hi
        show ((ofT i r.M).length : Int) = _
        by_cases ht2 : 0 < t
        · rw [if_pos ht2, ← hxp]
          have := okS_count ho (by omega)
          rw [show ((t.toNat : Nat) : Int) = t by omega] at this
          rw [← this]
          have hn : 0 ≤ x.n := by rw [this]; exact Int.ediv_nonneg (by omega) (by have := ho.1; omega)
          exact hmv.len hn
        · rw [if_neg ht2, hn0 (by omega)]
          rfl
      · omega
    · obtain ⟨e, he, hr⟩ := run_err l false t (by omega) (by omega) hH
      rw [hr false t (by omega) (by omega), hr true t (by omega) (by omega)]
      simp only [Option.bind_some, if_true]
      rw [show (e != 0) = true by simpa using he]
      exact err k e _ _ _ _ (by omega)
  · rw [if_neg hL]
theorem own : ownKnob Try.prog.godebug = none := by kernel_rfl
theorem Try.laidOut : laidOutB Try.prog = true := by kernel_rfl
open Go.ChangeShapes Go.WideShapes Go.ChangeAt Go.RowKit
open Go.ChangeMaps (open_string shut_string)
set_option maxRecDepth 100000 in
theorem lifted (os : Os) (started : os.Started) (H : Type) (enc : TypeId × Value → H) :
    ReturnsInHanded {} Try.checked os 3 .any (Rows.skipBlueSpec.pre6 enc Try.prog Try.f3 Rows.skipBlueRow.domain false) (Rows.skipBlueSpec.post enc Try.prog Try.f3 false true false false) := by
  refine returnsInHanded_of_change_sized (C := Try.checked) own started (by kernel_rfl) Try.func3
    (ChangeSpec.witness6 (enc := enc) (C := Try.checked) false ⟨#[], #[.slice none 0 0, .int .i64 0], []⟩ 8 (by kernel_rfl) (by kernel_rfl) (by kernel_rfl) (by kernel_rfl)) ?_
  intro W base args ds gs before hval0 hW hcnd hsz0 _
  have hsz : (DataW.weightsEach Try.prog (Try.f3.params.toList ++ Rows.skipBlueSpec.plain.varTypes Try.prog) (ds ++ gs)).all (· ≤ reachBytes) = true := hsz0
  have hval : ∀ (j : Nat) t v, Try.f3.params[j]? = some t → args[j]? = some v → Value.okWide Try.prog W .any base t v := hval0
  have hW' := hW
  obtain ⟨p, q, hA0, hV, rfl, hfz, hnd⟩ := hW
  have hA : DataW.TrodAll enc Try.prog W 0 (fun _ => true) true Try.f3.params.toList args.toList ds p := hA0
  rw [Try.params3] at hA hval hsz
  obtain ⟨v0, vs0, d0, ds0, p0, q0, hargs, rfl, rfl, h0, r0⟩ := trodAll_cons hA
  obtain ⟨v1, vs1, d1, ds1, p1, q1, rfl, rfl, rfl, h1, r1⟩ := trodAll_cons r0
  obtain ⟨rfl, rfl, rfl⟩ := trodAll_nil r1
  obtain rfl : args = #[v0, v1] := by cases args; simp_all
  obtain ⟨rfl, rfl⟩ := trodVars_none hV
  have k0 := h0
  have k1 := h1
  have lt0 : ∀ x ∈ p0, x.block < W.heap.size := by obtain ⟨m, hm⟩ := k0; exact DataW.trod_lt m _ _ _ hm
  have lt1 : ∀ x ∈ p1, x.block < W.heap.size := by obtain ⟨m, hm⟩ := k1; exact DataW.trod_lt m _ _ _ hm
  obtain ⟨a0, len0, cap0, rfl⟩ := okWide_slice Try.underlying22 (hval 0 22 v0 rfl rfl)
  obtain ⟨fuel0, hf0⟩ := h0
  obtain ⟨l0, rfl, hr0, hc0, hm0, hw0⟩ := st3_row Try.underlying22 Try.underlying35 (by kernel_rfl) (by kernel_rfl) Try.underlying3 rfl rfl rfl k35 rfl (fun a b c => (⟨a, b, c⟩ : S35)) (fun w a b c => k35_mk w ⟨a, b, c⟩) (by simpa [Value.cells] using hf0)
  obtain ⟨a1, rfl, rfl, rfl, w1⟩ := open_int Try.underlying3 (hval 1 3 v1 rfl rfl) h1
  clear hA0 hval0 hsz0 hsz
  refine (tocsinlaw21_SkipBlue.calls 9223372036854775990 a0 cap0 l0 a1 true W hr0 hc0 (blue l0 a1 9223372036854775990 (by omega))).mono fun e W' ⟨he, bel⟩ => ?_
  subst he
  exact ⟨_, rfl, _, _, _, _, _, [], hW', trodAll_mk1 (shut_bool Try.underlying4 _), (trodAll_cons_mk (Below.trod Try.laidOut (by kernel_rfl) (of_decide_eq_true (by kernel_rfl)) k0 bel lt0) (trodAll_cons_mk (Below.trod Try.laidOut (by kernel_rfl) (of_decide_eq_true (by kernel_rfl)) k1 bel lt1) trodAll_mk0)), rfl, bel.frame _, fun h => by cases h⟩
theorem over : Rows.skipBlueRow.holds Try.pinned (OpenSpec.ofChange Rows.skipBlueSpec) :=
  OpenClaim.holds_of_wide 3 Try.f3 rfl rfl rfl rfl rfl rfl rfl ⟨rfl, rfl, rfl, rfl, rfl⟩ rfl rfl rfl rfl rfl (by kernel_rfl) Try.func3 (by kernel_rfl)
    (of_decide_eq_true (by kernel_rfl)) (by unfold Func.isWrapper; first | (rw [if_pos (by decide +kernel)]; kernel_rfl) | (rw [if_neg (by decide +kernel)]; exact ⟨rfl, rfl⟩))
    (fun os started H enc _ => lifted os started H enc)
end Go.Proofs.Ytkjboaepeecinaa.Pure
namespace Go.Proofs.Ytkjboaepeecinaa
/-- The row, under a short name, for the claim. -/
theorem skipBlue_holds : Rows.SkipBlueSaid := Pure.over
end Go.Proofs.Ytkjboaepeecinaa
#print axioms Go.Proofs.Ytkjboaepeecinaa.skipBlue_holds
namespace Go.Proofs.Ytkjboaepeecinaa.Pure

end Go.Proofs.Ytkjboaepeecinaa.Pure
