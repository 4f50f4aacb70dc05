/- Fewer ticks of a run are a beginning of more: for every list of tasks, either way, all ticks (of more than 6 tasks, of more than 300 ticks nothing is asked). -/
import Derived.Test.YtkjboaepeecinaaPSkx10
import Derived.Test.YtkjboaepeecinaaSkLaw
import Derived.Deep.Strs
import Derived.Deep.Slices
import Derived.Deep.Fields
import Derived.ChangeArms
import Derived.DataReads
import Derived.Test.YtkjboaepeecinaaRows
import Derived.WalkKit
import Derived.ProofKit
import Derived.OpenShut
import Derived.ShutString
import Derived.ChangeOld
import Derived.Below
import Derived.SizedLaws
import Derived.Carry
import Derived.Lib.SmallJoins
import Derived.Test.YtkjboaepeecinaaWSized
namespace Go.Proofs.Ytkjboaepeecinaa.Pure
open Go.RowKit Go.Proofs.Ytkjboaepeecinaa.PSk Go.Proofs.YtkjboaepeecinaaW.PrintWords Go.Proofs.YtkjboaepeecinaaW.PrintLast Go.Proofs.YtkjboaepeecinaaW.PrintMore 
set_option linter.unusedVariables false
set_option linter.unusedSimpArgs false

/-! A slice of structs of three whole numbers that came in: the list that it reads as. -/
section
open Go.Deep Go.ChangeShapes Go.WideShapes
variable {H : Type} {enc : TypeId × Value → H} {w : World} {base : Nat} {spare : Nat → Bool} {held : Bool}
theorem st3_cells {P : Program} {k : IntKind} {e ti : TypeId} {f0 f1 f2 : Field} (he : P.underlying e = some (.struct #[f0, f1, f2])) (hone : oneCellFields P #[f0, f1, f2] = true) (hC : P.cellsOf e = 3) (hi : P.underlying ti = some (.int k))
    (t0 : f0.type = ti) (t1 : f1.type = ti) (t2 : f2.type = ti) {fuel : Nat} {cs : List Value} {x : DataW H × List MemPlace} (h : DataW.trod enc P w base spare held fuel e cs = some x) :
    ∃ a b c : Int, cs = [.int k a, .int k b, .int k c] ∧ (Lit.int k a).wf = true ∧ (Lit.int k b).wf = true ∧ (Lit.int k c).wf = true := by
  obtain ⟨y0, y1, y2, n, _, hl, h0, h1, h2⟩ := trod_struct3 he h
  rw [hC] at hl
  match cs, hl with
  | [u, v, z], _ =>
    obtain ⟨o0, k0⟩ := hone_of hone 0 f0 rfl
    obtain ⟨o1, k1⟩ := hone_of hone 1 f1 rfl
    obtain ⟨o2, k2⟩ := hone_of hone 2 f2 rfl
    rw [o0, k0, t0] at h0; rw [o1, k1, t1] at h1; rw [o2, k2, t2] at h2
    obtain ⟨a, ea, _, wa⟩ := DataW.trod_int hi h0
    obtain ⟨b, eb, _, wb⟩ := DataW.trod_int hi h1
    obtain ⟨c, ec, _, wc⟩ := DataW.trod_int hi h2
    simp at ea eb ec
    subst ea eb ec
    exact ⟨a, b, c, rfl, wa, wb, wc⟩
theorem st3_row {P : Program} {k : IntKind} {t e ti : TypeId} {f0 f1 f2 : Field} (ht : P.underlying t = some (.slice e)) (he : P.underlying e = some (.struct #[f0, f1, f2])) (hone : oneCellFields P #[f0, f1, f2] = true) (hC : P.cellsOf e = 3) (hi : P.underlying ti = some (.int k))
    (t0 : f0.type = ti) (t1 : f1.type = ti) (t2 : f2.type = ti) {α : Type} (d : Kd α) (hd : d.sz = 3) (mk : Int → Int → Int → α) (hk : ∀ w a b c, d.K w (mk a b c) [.int k a, .int k b, .int k c])
    {fuel : Nat} {A : Option Addr} {len cap : Nat} {x : DataW H × List MemPlace} (h : DataW.trod enc P w base spare held fuel t [.slice A len cap] = some x) :
    ∃ l : List α, len = l.length ∧ Kd.C d w A l.length l ∧ l.length ≤ cap ∧ l.length ≤ maxLen ∧ ∀ y ∈ l, ∃ a b c, y = mk a b c ∧ (Lit.int k a).wf = true ∧ (Lit.int k b).wf = true ∧ (Lit.int k c).wf = true := by
  rcases open_slice ht h with ⟨h0, _⟩ | ⟨a, len', cap', m, n, D, Pl, hcs, hb, hl, hm, hmm, hx, hi'⟩
  · simp at h0
    obtain ⟨rfl, rfl, rfl⟩ := h0
    exact ⟨[], rfl, ⟨rfl, by simp, fun h => absurd h (by simp)⟩, by simp, by simp, by simp⟩
  · simp at hcs
    obtain ⟨rfl, rfl, rfl⟩ := hcs
    have hmlen : len ≤ m := by rw [hmm]; split <;> omega
    have hall : ∀ i, ∃ y : Int × Int × Int, i < len → (∀ j u, ([.int k y.1, .int k y.2.1, .int k y.2.2] : List Value)[j]? = some u → w.cell? (a.add (i * 3 + j)) = some u) ∧ (Lit.int k y.1).wf = true ∧ (Lit.int k y.2.1).wf = true ∧ (Lit.int k y.2.2).wf = true := by
      intro i
      by_cases hlt : i < len
      · obtain ⟨cs', hc, htr⟩ := hi' i (by omega)
        obtain ⟨p, q, r, rfl, wp, wq, wr⟩ := st3_cells he hone hC hi t0 t1 t2 htr
        rw [hC] at hc
        obtain ⟨_, _, hat⟩ := World.cells?_some hc
        refine ⟨(p, q, r), fun _ => ⟨fun j u hj => ?_, wp, wq, wr⟩⟩
        have hjl : j < 3 := by
          have := (List.getElem?_eq_some_iff.1 hj).1
          simpa using this
        have := hat j hjl
        rw [Go.Deep.add_add] at this
        rw [this]; exact hj
      · exact ⟨(0, 0, 0), fun h => absurd h hlt⟩
    have hY := fun i => Classical.choose_spec (hall i)
    generalize (fun i => Classical.choose (hall i)) = Y at hY
    refine ⟨(List.range len).map fun i => mk (Classical.choose (hall i)).1 (Classical.choose (hall i)).2.1 (Classical.choose (hall i)).2.2, by simp, ?_, by simp; omega, by simp; exact Nat.le_trans hl hm, ?_⟩
    · refine ⟨rfl, by simp; exact Nat.le_trans (Nat.le_trans hl hm) (by unfold maxLen; omega), fun _ => ⟨a, rfl, fun j p hj => ?_⟩⟩
      rw [List.getElem?_map] at hj
      have hjl : j < len := by
        by_cases g : j < len
        · exact g
        · rw [List.getElem?_eq_none (by simp; omega)] at hj; simp at hj
      rw [List.getElem?_eq_getElem (by simpa using hjl)] at hj
      simp at hj
      subst hj
      refine ⟨_, by rw [hd]; rfl, hk w _ _ _, fun i u hu => ?_⟩
      rw [hd]
      exact (Classical.choose_spec (hall j) hjl).1 i u hu
    · intro y hy
      obtain ⟨i, hi2, rfl⟩ := List.mem_map.1 hy
      have hil : i < len := by simpa using hi2
      have := (Classical.choose_spec (hall i) hil).2
      exact ⟨_, _, _, rfl, this⟩
end

theorem run_pre (b : Bool) (S0 : List St) (n : Nat) : ∀ d, ∃ T M, (runTo b S0 (n + d)).T = (runTo b S0 n).T ++ T ∧ (runTo b S0 (n + d)).M = (runTo b S0 n).M ++ M
  | 0 => ⟨[], [], by simp, by simp⟩
  | d + 1 => by
    obtain ⟨T, M, h1, h2⟩ := run_pre b S0 n d
    refine ⟨T ++ [atS b ((runTo b S0 (n + d)).S.map (tq b ((n + d : Nat) : Int)))], M ++ mkl ((n + d : Nat) : Int) 0 (runTo b S0 (n + d)).S, ?_, ?_⟩
    · show (runTo b S0 (n + d + 1)).T = _
      rw [runTo]
      simp only [stepS]
      rw [h1, List.append_assoc]
    · show (runTo b S0 (n + d + 1)).M = _
      rw [runTo]
      simp only [stepS]
      rw [h2, List.append_assoc]
theorem cuts_loop (T T' : List Int) (M M' : List S33) (hl : (M ++ M').length ≤ 1000000) : ∀ (d k i : Nat), i ≤ M.length → M.length - i = d → d < k → tocsinlaw21_SkipCuts.l0 k (i : Int) T M T' (M ++ M') = some true := by
  intro d
  induction d with
  | zero =>
    intro k i hi hd hk
    obtain ⟨k, rfl⟩ : ∃ m, k = m + 1 := ⟨k - 1, by omega⟩
    simp only [tocsinlaw21_SkipCuts.l0]
    rw [if_neg (by omega)]
  | succ d ih =>
    intro k i hi hd hk
    obtain ⟨k, rfl⟩ : ∃ m, k = m + 1 := ⟨k - 1, by omega⟩
    simp only [tocsinlaw21_SkipCuts.l0]
    have e : rd_T33 (M ++ M') (i : Int) = rd_T33 M (i : Int) := by
      unfold rd_T33
      rw [List.getD_eq_getElem?_getD, List.getD_eq_getElem?_getD, show ((i : Int)).toNat = i by omega, List.getElem?_append_left (by omega)]
    rw [if_pos (by omega), if_pos (by omega), if_pos (by rw [List.length_append]; omega), e, if_neg (by simp)]
    rw [List.length_append] at hl
    rw [w64 (x := (i : Int) + 1) (by omega) (by omega)]
    exact ih k (i + 1) (by omega) (by omega) (by omega)
theorem cuts_true (k : Nat) (l : List S35) (b : Bool) (n m : Int) (hk : 1 ≤ k) : tocsinlaw21_SkipCuts.j0 k l b n m true = some true := by
  obtain ⟨k, rfl⟩ : ∃ m, k = m + 1 := ⟨k - 1, by omega⟩
  simp only [tocsinlaw21_SkipCuts.j0, if_true]
theorem cuts_j1 (k : Nat) (e : Int) (T T' : List Int) (M M' : List S33) (hk : 1 ≤ k) : tocsinlaw21_SkipCuts.j1 k e e true T M T' M' = some true := by
  obtain ⟨k, rfl⟩ : ∃ m, k = m + 1 := ⟨k - 1, by omega⟩
  simp only [tocsinlaw21_SkipCuts.j1, if_true]
  simp
theorem cuts (l : List S35) (b : Bool) (n m : Int) (k : Nat) (hk : 9223372036854775990 ≤ k) : tocsinlaw21_SkipCuts.f k l b n m = some true := by
  unfold tocsinlaw21_SkipCuts.f
  rw [awake_is k (by omega), light_is k (by omega)]
  simp only [Option.bind_some, if_true]
  by_cases hL : lightS l m = true
  · have hb := lightS_bd hL
    rw [if_pos hL]
    by_cases hn : n < 0
    · rw [if_pos hn]; exact cuts_true k l b n m (by omega)
    rw [if_neg hn]
    by_cases hm : m < n
    · rw [decide_eq_true hm]; exact cuts_true k l b n m (by omega)
    rw [decide_eq_false hm]
    obtain ⟨k, rfl⟩ : ∃ m, k = m + 1 := ⟨k - 1, by omega⟩
    simp only [tocsinlaw21_SkipCuts.j0, Bool.false_eq_true, if_false]
    by_cases hH : heldS l
    · rw [run_ok l b n (by omega) (by omega) hH, run_ok l b m (by omega) (by omega) hH]
      simp only [Option.bind_some, if_true]
      obtain ⟨hl1, hl2⟩ := run_len hH b m (by omega) (by omega)
      obtain ⟨hl3, hl4⟩ := run_len hH b n (by omega) (by omega)
      obtain ⟨d, hd⟩ : ∃ d, m.toNat = n.toNat + d := ⟨m.toNat - n.toNat, by omega⟩
      obtain ⟨T, M, h1, h2⟩ := run_pre b (l.map iniT) n.toNat d
      rw [← hd] at h1 h2
      rw [h1, h2]
      rw [h2] at hl1
      rw [h1] at hl2
      generalize (runTo b (l.map iniT) n.toNat).T = Tn at *
      generalize (runTo b (l.map iniT) n.toNat).M = Mn at *
      obtain ⟨k, rfl⟩ : ∃ m, k = m + 1 := ⟨k - 1, by omega⟩
      simp only [tocsinlaw21_SkipCuts.j1]
      rw [show ((0 : Int) != 0) = false by decide]
      simp only [Bool.false_eq_true, if_false]
      have hT : ((Tn.length : Int)).toNat = Tn.length := by omega
      rw [if_neg (by rw [List.length_append]; omega), if_neg (by rw [List.length_append]; omega), if_pos (by omega), if_pos (by rw [List.length_append]; omega), hT, List.take_left', ints_same Tn (by omega) k (by omega)]
      · simp only [Option.bind_some, Bool.not_true]
        obtain ⟨k, rfl⟩ : ∃ m, k = m + 1 := ⟨k - 1, by omega⟩
        simp only [tocsinlaw21_SkipCuts.j2, Bool.false_eq_true, if_false]
        exact cuts_loop Tn _ Mn M (by omega) Mn.length k 0 (by omega) (by omega) (by omega)
      · rfl
    · obtain ⟨e, he, hr⟩ := run_err l b n (by omega) (by omega) hH
      rw [hr b n (by omega) (by omega), hr b m (by omega) (by omega)]
      simp only [Option.bind_some, if_true]
      rw [show (e != 0) = true by simpa using he]
      exact cuts_j1 k e _ _ _ _ (by omega)
  · rw [if_neg hL]
    exact cuts_true k l b n m (by omega)
theorem own : ownKnob Try.prog.godebug = none := by kernel_rfl
theorem Try.laidOut : laidOutB Try.prog = true := by kernel_rfl
open Go.ChangeShapes Go.WideShapes Go.ChangeAt Go.RowKit
open Go.ChangeMaps (open_string shut_string)
set_option maxRecDepth 100000 in
theorem lifted (os : Os) (started : os.Started) (H : Type) (enc : TypeId × Value → H) :
    ReturnsInHanded {} Try.checked os 5 .any (Rows.skipCutsSpec.pre6 enc Try.prog Try.f5 Rows.skipCutsRow.domain false) (Rows.skipCutsSpec.post enc Try.prog Try.f5 false true false false) := by
  refine returnsInHanded_of_change_sized (C := Try.checked) own started (by kernel_rfl) Try.func5
    (ChangeSpec.witness6 (enc := enc) (C := Try.checked) false ⟨#[], #[.slice none 0 0, .bool false, .int .i64 0, .int .i64 0], []⟩ 8 (by kernel_rfl) (by kernel_rfl) (by kernel_rfl) (by kernel_rfl)) ?_
  intro W base args ds gs before hval0 hW hcnd hsz0 _
  have hsz : (DataW.weightsEach Try.prog (Try.f5.params.toList ++ Rows.skipCutsSpec.plain.varTypes Try.prog) (ds ++ gs)).all (· ≤ reachBytes) = true := hsz0
  have hval : ∀ (j : Nat) t v, Try.f5.params[j]? = some t → args[j]? = some v → Value.okWide Try.prog W .any base t v := hval0
  have hW' := hW
  obtain ⟨p, q, hA0, hV, rfl, hfz, hnd⟩ := hW
  have hA : DataW.TrodAll enc Try.prog W 0 (fun _ => true) true Try.f5.params.toList args.toList ds p := hA0
  rw [Try.params5] at hA hval hsz
  obtain ⟨v0, vs0, d0, ds0, p0, q0, hargs, rfl, rfl, h0, r0⟩ := trodAll_cons hA
  obtain ⟨v1, vs1, d1, ds1, p1, q1, rfl, rfl, rfl, h1, r1⟩ := trodAll_cons r0
  obtain ⟨v2, vs2, d2, ds2, p2, q2, rfl, rfl, rfl, h2, r2⟩ := trodAll_cons r1
  obtain ⟨v3, vs3, d3, ds3, p3, q3, rfl, rfl, rfl, h3, r3⟩ := trodAll_cons r2
  obtain ⟨rfl, rfl, rfl⟩ := trodAll_nil r3
  obtain rfl : args = #[v0, v1, v2, v3] := by cases args; simp_all
  obtain ⟨rfl, rfl⟩ := trodVars_none hV
  have k0 := h0
  have k1 := h1
  have k2 := h2
  have k3 := h3
  have lt0 : ∀ x ∈ p0, x.block < W.heap.size := by obtain ⟨m, hm⟩ := k0; exact DataW.trod_lt m _ _ _ hm
  have lt1 : ∀ x ∈ p1, x.block < W.heap.size := by obtain ⟨m, hm⟩ := k1; exact DataW.trod_lt m _ _ _ hm
  have lt2 : ∀ x ∈ p2, x.block < W.heap.size := by obtain ⟨m, hm⟩ := k2; exact DataW.trod_lt m _ _ _ hm
  have lt3 : ∀ x ∈ p3, x.block < W.heap.size := by obtain ⟨m, hm⟩ := k3; exact DataW.trod_lt m _ _ _ hm
  obtain ⟨a0, len0, cap0, rfl⟩ := okWide_slice Try.underlying22 (hval 0 22 v0 rfl rfl)
  obtain ⟨fuel0, hf0⟩ := h0
  obtain ⟨l0, rfl, hr0, hc0, hm0, hw0⟩ := st3_row Try.underlying22 Try.underlying35 (by kernel_rfl) (by kernel_rfl) Try.underlying3 rfl rfl rfl k35 rfl (fun a b c => (⟨a, b, c⟩ : S35)) (fun w a b c => k35_mk w ⟨a, b, c⟩) (by simpa [Value.cells] using hf0)
  obtain ⟨a1, rfl, rfl, rfl⟩ := open_bool Try.underlying4 (hval 1 4 v1 rfl rfl) h1
  obtain ⟨a2, rfl, rfl, rfl, w2⟩ := open_int Try.underlying3 (hval 2 3 v2 rfl rfl) h2
  obtain ⟨a3, rfl, rfl, rfl, w3⟩ := open_int Try.underlying3 (hval 3 3 v3 rfl rfl) h3
  clear hA0 hval0 hsz0 hsz
  refine (tocsinlaw21_SkipCuts.calls 9223372036854775990 a0 cap0 l0 a1 a2 a3 true W hr0 hc0 (cuts l0 a1 a2 a3 9223372036854775990 (by omega))).mono fun e W' ⟨he, bel⟩ => ?_
  subst he
  exact ⟨_, rfl, _, _, _, _, _, [], hW', trodAll_mk1 (shut_bool Try.underlying4 _), (trodAll_cons_mk (Below.trod Try.laidOut (by kernel_rfl) (of_decide_eq_true (by kernel_rfl)) k0 bel lt0) (trodAll_cons_mk (Below.trod Try.laidOut (by kernel_rfl) (of_decide_eq_true (by kernel_rfl)) k1 bel lt1) (trodAll_cons_mk (Below.trod Try.laidOut (by kernel_rfl) (of_decide_eq_true (by kernel_rfl)) k2 bel lt2) (trodAll_cons_mk (Below.trod Try.laidOut (by kernel_rfl) (of_decide_eq_true (by kernel_rfl)) k3 bel lt3) trodAll_mk0)))), rfl, bel.frame _, fun h => by cases h⟩
theorem over : Rows.skipCutsRow.holds Try.pinned (OpenSpec.ofChange Rows.skipCutsSpec) :=
  OpenClaim.holds_of_wide 5 Try.f5 rfl rfl rfl rfl rfl rfl rfl ⟨rfl, rfl, rfl, rfl, rfl⟩ rfl rfl rfl rfl rfl (by kernel_rfl) Try.func5 (by kernel_rfl)
    (of_decide_eq_true (by kernel_rfl)) (by unfold Func.isWrapper; first | (rw [if_pos (by decide +kernel)]; kernel_rfl) | (rw [if_neg (by decide +kernel)]; exact ⟨rfl, rfl⟩))
    (fun os started H enc _ => lifted os started H enc)
end Go.Proofs.Ytkjboaepeecinaa.Pure
namespace Go.Proofs.Ytkjboaepeecinaa
/-- The row, under a short name, for the claim. -/
theorem skipCuts_holds : Rows.SkipCutsSaid := Pure.over
end Go.Proofs.Ytkjboaepeecinaa
#print axioms Go.Proofs.Ytkjboaepeecinaa.skipCuts_holds
namespace Go.Proofs.Ytkjboaepeecinaa.Pure

end Go.Proofs.Ytkjboaepeecinaa.Pure
