/- Of any tasks that can be held each red job is met, blue ones beside them or not; of as many in a row as its task may skip one of, one at most is missed: for every list of tasks, either way, all ticks (of more than 6 tasks, of more than 300 ticks nothing is asked). -/
import Derived.Test.YtkjboaepeecinaaPSkx8
import Derived.Test.YtkjboaepeecinaaSkFun
import Derived.Test.YtkjboaepeecinaaSkAsk
import Derived.Deep.Strs
import Derived.Deep.Slices
import Derived.Deep.Fields
import Derived.ChangeArms
import Derived.DataReads
import Derived.Test.YtkjboaepeecinaaRows
import Derived.WalkKit
import Derived.ProofKit
import Derived.OpenShut
import Derived.ShutString
import Derived.ChangeOld
import Derived.Below
import Derived.SizedLaws
import Derived.Carry
import Derived.Lib.SmallJoins
import Derived.Test.YtkjboaepeecinaaWSized
namespace Go.Proofs.Ytkjboaepeecinaa.Pure
open Go.RowKit Go.Proofs.Ytkjboaepeecinaa.PSk Go.Proofs.YtkjboaepeecinaaW.PrintWords Go.Proofs.YtkjboaepeecinaaW.PrintLast Go.Proofs.YtkjboaepeecinaaW.PrintMore 
set_option linter.unusedVariables false
set_option linter.unusedSimpArgs false

/-! A slice of structs of three whole numbers that came in: the list that it reads as. -/
section
open Go.Deep Go.ChangeShapes Go.WideShapes
variable {H : Type} {enc : TypeId × Value → H} {w : World} {base : Nat} {spare : Nat → Bool} {held : Bool}
theorem st3_cells {P : Program} {k : IntKind} {e ti : TypeId} {f0 f1 f2 : Field} (he : P.underlying e = some (.struct #[f0, f1, f2])) (hone : oneCellFields P #[f0, f1, f2] = true) (hC : P.cellsOf e = 3) (hi : P.underlying ti = some (.int k))
    (t0 : f0.type = ti) (t1 : f1.type = ti) (t2 : f2.type = ti) {fuel : Nat} {cs : List Value} {x : DataW H × List MemPlace} (h : DataW.trod enc P w base spare held fuel e cs = some x) :
    ∃ a b c : Int, cs = [.int k a, .int k b, .int k c] ∧ (Lit.int k a).wf = true ∧ (Lit.int k b).wf = true ∧ (Lit.int k c).wf = true := by
  obtain ⟨y0, y1, y2, n, _, hl, h0, h1, h2⟩ := trod_struct3 he h
  rw [hC] at hl
  match cs, hl with
  | [u, v, z], _ =>
    obtain ⟨o0, k0⟩ := hone_of hone 0 f0 rfl
    obtain ⟨o1, k1⟩ := hone_of hone 1 f1 rfl
    obtain ⟨o2, k2⟩ := hone_of hone 2 f2 rfl
    rw [o0, k0, t0] at h0; rw [o1, k1, t1] at h1; rw [o2, k2, t2] at h2
    obtain ⟨a, ea, _, wa⟩ := DataW.trod_int hi h0
    obtain ⟨b, eb, _, wb⟩ := DataW.trod_int hi h1
    obtain ⟨c, ec, _, wc⟩ := DataW.trod_int hi h2
    simp at ea eb ec
    subst ea eb ec
    exact ⟨a, b, c, rfl, wa, wb, wc⟩
theorem st3_row {P : Program} {k : IntKind} {t e ti : TypeId} {f0 f1 f2 : Field} (ht : P.underlying t = some (.slice e)) (he : P.underlying e = some (.struct #[f0, f1, f2])) (hone : oneCellFields P #[f0, f1, f2] = true) (hC : P.cellsOf e = 3) (hi : P.underlying ti = some (.int k))
    (t0 : f0.type = ti) (t1 : f1.type = ti) (t2 : f2.type = ti) {α : Type} (d : Kd α) (hd : d.sz = 3) (mk : Int → Int → Int → α) (hk : ∀ w a b c, d.K w (mk a b c) [.int k a, .int k b, .int k c])
    {fuel : Nat} {A : Option Addr} {len cap : Nat} {x : DataW H × List MemPlace} (h : DataW.trod enc P w base spare held fuel t [.slice A len cap] = some x) :
    ∃ l : List α, len = l.length ∧ Kd.C d w A l.length l ∧ l.length ≤ cap ∧ l.length ≤ maxLen ∧ ∀ y ∈ l, ∃ a b c, y = mk a b c ∧ (Lit.int k a).wf = true ∧ (Lit.int k b).wf = true ∧ (Lit.int k c).wf = true := by
  rcases open_slice ht h with ⟨h0, _⟩ | ⟨a, len', cap', m, n, D, Pl, hcs, hb, hl, hm, hmm, hx, hi'⟩
  · simp at h0
    obtain ⟨rfl, rfl, rfl⟩ := h0
    exact ⟨[], rfl, ⟨rfl, by simp, fun h => absurd h (by simp)⟩, by simp, by simp, by simp⟩
  · simp at hcs
    obtain ⟨rfl, rfl, rfl⟩ := hcs
    have hmlen : len ≤ m := by rw [hmm]; split <;> omega
    have hall : ∀ i, ∃ y : Int × Int × Int, i < len → (∀ j u, ([.int k y.1, .int k y.2.1, .int k y.2.2] : List Value)[j]? = some u → w.cell? (a.add (i * 3 + j)) = some u) ∧ (Lit.int k y.1).wf = true ∧ (Lit.int k y.2.1).wf = true ∧ (Lit.int k y.2.2).wf = true := by
      intro i
      by_cases hlt : i < len
      · obtain ⟨cs', hc, htr⟩ := hi' i (by omega)
        obtain ⟨p, q, r, rfl, wp, wq, wr⟩ := st3_cells he hone hC hi t0 t1 t2 htr
        rw [hC] at hc
        obtain ⟨_, _, hat⟩ := World.cells?_some hc
        refine ⟨(p, q, r), fun _ => ⟨fun j u hj => ?_, wp, wq, wr⟩⟩
        have hjl : j < 3 := by
          have := (List.getElem?_eq_some_iff.1 hj).1
          simpa using this
        have := hat j hjl
        rw [Go.Deep.add_add] at this
        rw [this]; exact hj
      · exact ⟨(0, 0, 0), fun h => absurd h hlt⟩
    have hY := fun i => Classical.choose_spec (hall i)
    generalize (fun i => Classical.choose (hall i)) = Y at hY
    refine ⟨(List.range len).map fun i => mk (Classical.choose (hall i)).1 (Classical.choose (hall i)).2.1 (Classical.choose (hall i)).2.2, by simp, ?_, by simp; omega, by simp; exact Nat.le_trans hl hm, ?_⟩
    · refine ⟨rfl, by simp; exact Nat.le_trans (Nat.le_trans hl hm) (by unfold maxLen; omega), fun _ => ⟨a, rfl, fun j p hj => ?_⟩⟩
      rw [List.getElem?_map] at hj
      have hjl : j < len := by
        by_cases g : j < len
        · exact g
        · rw [List.getElem?_eq_none (by simp; omega)] at hj; simp at hj
      rw [List.getElem?_eq_getElem (by simpa using hjl)] at hj
      simp at hj
      subst hj
      refine ⟨_, by rw [hd]; rfl, hk w _ _ _, fun i u hu => ?_⟩
      rw [hd]
      exact (Classical.choose_spec (hall j) hjl).1 i u hu
    · intro y hy
      obtain ⟨i, hi2, rfl⟩ := List.mem_map.1 hy
      have hil : i < len := by simpa using hi2
      have := (Classical.choose_spec (hall i) hil).2
      exact ⟨_, _, _, rfl, this⟩
end

theorem reds_l1 (l : List S35) (t : Int) (T : List Int) (M : List S33) (hM : M.length ≤ 1000000) (hl : l.length ≤ 20) (hT : (T.length : Int) = t)
    (hw : ∀ (i : Nat), i < l.length → 0 < (rd_T35 l (i : Int)).f2 → worstV (valV (ofI i M)) (rd_T35 l (i : Int)).f2 ≤ 1)
    (hm : ∀ (i : Nat), i < l.length → (rd_T35 l (i : Int)).f2 = 0 → missV (ofI i M) = []) :
    ∀ (d k i : Nat), i ≤ l.length → l.length - i = d → d + 2 * M.length + 20 < k → tocsinlaw21_SkipReds.l1 k l t (i : Int) T M = some true := by
  intro d
  induction d with
  | zero =>
    intro k i hi hd hk
    obtain ⟨k, rfl⟩ : ∃ m, k = m + 1 := ⟨k - 1, by omega⟩
    simp only [tocsinlaw21_SkipReds.l1]
    rw [if_neg (by omega)]
    simp [hT]
  | succ d ih =>
    intro k i hi hd hk
    obtain ⟨k, rfl⟩ : ∃ m, k = m + 1 := ⟨k - 1, by omega⟩
    simp only [tocsinlaw21_SkipReds.l1]
    have h1 := hw i (by omega)
    have h2 := hm i (by omega)
    have go := ih k (i + 1) (by omega) (by omega) (by omega)
    rw [if_pos (by omega), if_pos (by omega), w64 (x := (i : Int) + 1) (by omega) (by omega)]
    generalize rd_T35 l (i : Int) = x at *
    have g1 : tocsinlaw21_SkipReds.l1 k l t ((i : Int) + 1) T M = some true := go
    by_cases q1 : x.f2 > 0
    · rw [if_pos q1, worst_is T M _ _ hM k (by omega)]
      simp only [Option.bind_some]
      rw [if_neg (by have := h1 q1; omega), if_neg (show ¬ x.f2 = 0 by omega)]
      exact g1
    · rw [if_neg q1]
      by_cases q2 : x.f2 = 0
      · rw [if_pos q2, misses_is T M _ hM k (by omega), h2 q2]
        simp only [Option.bind_some]
        rw [if_neg (by simp)]
        exact g1
      · rw [if_neg q2]
        exact g1
theorem reds_l0 (l : List S35) (t : Int) (T : List Int) (M : List S33) (hM : M.length ≤ 1000000) (hr : ∀ m ∈ M, m.f2 = true → m.f3 = true) (hend : ∀ k, 3000000 ≤ k → tocsinlaw21_SkipReds.l1 k l t 0 T M = some true) :
    ∀ (d k i : Nat), i ≤ M.length → M.length - i = d → d + 3000001 < k → tocsinlaw21_SkipReds.l0 k l t (i : Int) T M = some true := by
  intro d
  induction d with
  | zero =>
    intro k i hi hd hk
    obtain ⟨k, rfl⟩ : ∃ m, k = m + 1 := ⟨k - 1, by omega⟩
    simp only [tocsinlaw21_SkipReds.l0]
    rw [if_neg (by omega)]
    exact hend k (by omega)
  | succ d ih =>
    intro k i hi hd hk
    obtain ⟨k, rfl⟩ : ∃ m, k = m + 1 := ⟨k - 1, by omega⟩
    simp only [tocsinlaw21_SkipReds.l0]
    have go := ih k (i + 1) (by omega) (by omega) (by omega)
    have hmem : rd_T33 M (i : Int) ∈ M := by
      unfold rd_T33
      rw [List.getD_eq_getElem?_getD, show ((i : Int)).toNat = i by omega, List.getElem?_eq_getElem (by omega)]
      exact List.getElem_mem _
    have h1 := hr _ hmem
    rw [if_pos (by omega), if_pos (by omega), w64 (x := (i : Int) + 1) (by omega) (by omega)]
    generalize rd_T33 M (i : Int) = m at *
    by_cases q1 : m.f2 = true
    · rw [if_pos q1, if_pos (h1 q1)]
      exact go
    · rw [if_neg q1]
      exact go
theorem ofI_T (i : Nat) (M : List S33) : ofI i M = ofT i M := rfl
theorem reds (l : List S35) (b : Bool) (t : Int) (k : Nat) (hk : 9223372036854775990 ≤ k) : tocsinlaw21_SkipReds.f k l b t = some true := by
  unfold tocsinlaw21_SkipReds.f
  rw [awake_is k (by omega), light_is k (by omega)]
  simp only [Option.bind_some, if_true]
  by_cases hL : lightS l t = true
  · have hb := lightS_bd hL
    rw [if_pos hL]
    by_cases ht : t < 0
    · rw [run_neg l b t ht]
      simp
    by_cases hH : heldS l
    · rw [run_ok l b t (by omega) (by omega) hH]
      simp only [Option.bind_some, if_true]
      obtain ⟨hl1, hl2⟩ := run_len hH b t (by omega) (by omega)
      obtain ⟨ok0, ini0⟩ := held_ini hH b
      have hmet := reds_met b (l.map iniT) ok0 ini0 (held_ask hH) t.toNat
      have hmi := run_minv b (l.map iniT) ok0 ini0 t.toNat
      have hok := run_okS b (l.map iniT) ok0 t.toNat
      have hsl := runTo_len b (l.map iniT) t.toNat
      have hpar : ∀ (i : Nat) (x : St), (runTo b (l.map iniT) t.toNat).S[i]? = some x → i < l.length → x.s = (rd_T35 l (i : Int)).f2 := fun i x hx hi => by
        rw [run_skip b (l.map iniT) t.toNat i x hx (iniT (rd_T35 l (i : Int))) (by
          rw [List.getElem?_map, List.getElem?_eq_getElem hi]
          unfold rd_T35
          rw [List.getD_eq_getElem?_getD, show ((i : Int)).toNat = i by omega, List.getElem?_eq_getElem hi]
          rfl)]
        rfl
      rw [List.length_map] at hsl
      generalize (runTo b (l.map iniT) t.toNat) = r at *
      have key : ∀ (i : Nat), i < l.length → ∃ x, r.S[i]? = some x ∧ MInv b x (ofT i r.M) ∧ okS b (t.toNat : Int) x ∧ x.s = (rd_T35 l (i : Int)).f2 := fun i hi => by
        have hx : r.S[i]? = some (r.S[i]'(by omega)) := List.getElem?_eq_getElem _
        exact ⟨_, hx, hmi i _ hx, hok _ (List.mem_of_getElem? hx), hpar i _ hx hi⟩
      have mem_ofT : ∀ (i : Nat) (m : S33), m ∈ ofT i r.M → m ∈ r.M := fun i m hm => (List.mem_filter.1 hm).1
      refine reds_l0 l t r.T r.M (by omega) (fun m hm => hmet m hm) (fun k hk => reds_l1 l t r.T r.M (by omega) (by omega) hl2 (fun i hi hs => ?_) (fun i hi hs => ?_) l.length k 0 (by omega) (by omega) (by omega)) r.M.length k 0 (by omega) (by omega) (by omega)
      · obtain ⟨x, hx, hmv, _, hxs⟩ := key i hi
        rw [ofI_T]
        unfold worstV
        split
        · decide
        · refine apart_worst _ (valV_bd _) _ fun a c hac hc h1 h2 => ?_
          have hlen : (valV (ofT i r.M)).length = (ofT i r.M).length := List.length_map ..
          have get : ∀ (j : Nat), j < (ofT i r.M).length → (valV (ofT i r.M)).getD j 0 = 1 → ∃ m, (ofT i r.M)[j]? = some m ∧ bm m := by
            intro j hj h
            refine ⟨_, List.getElem?_eq_getElem hj, ?_⟩
            rw [List.getD_eq_getElem?_getD] at h
            unfold valV at h
            rw [List.getElem?_map, List.getElem?_eq_getElem hj] at h
            have h' : (if ((ofT i r.M)[j]).f3 = true then (0 : Int) else 1) = 1 := h
            have hm := hmet _ (mem_ofT i _ (List.getElem_mem hj))
            generalize (ofT i r.M)[j] = m at *
            obtain ⟨m0, m1, m2, m3⟩ := m
            cases m2 <;> cases m3 <;> simp_all [bm]
          obtain ⟨m1, g1, b1⟩ := get a (by omega) h1
          obtain ⟨m2, g2, b2⟩ := get c (by omega) h2
          have := hmv.apart (by omega) a c m1 m2 hac g1 g2 b1 b2
          omega
      · obtain ⟨x, hx, hmv, _, hxs⟩ := key i hi
        rw [ofI_T]
        unfold missV
        rw [List.map_eq_nil_iff, List.filter_eq_nil_iff]
        intro m hm
        have h1 := hmv.red (by omega) m hm
        have h2 := hmet m (mem_ofT i m hm) h1
        simp [h2]
    · obtain ⟨e, he, hr⟩ := run_err l b t (by omega) (by omega) hH
      rw [hr b t (by omega) (by omega)]
      simp [he]
  · rw [if_neg hL]
theorem own : ownKnob Try.prog.godebug = none := by kernel_rfl
theorem Try.laidOut : laidOutB Try.prog = true := by kernel_rfl
open Go.ChangeShapes Go.WideShapes Go.ChangeAt Go.RowKit
open Go.ChangeMaps (open_string shut_string)
set_option maxRecDepth 100000 in
theorem lifted (os : Os) (started : os.Started) (H : Type) (enc : TypeId × Value → H) :
    ReturnsInHanded {} Try.checked os 8 .any (Rows.skipRedsSpec.pre6 enc Try.prog Try.f8 Rows.skipRedsRow.domain false) (Rows.skipRedsSpec.post enc Try.prog Try.f8 false true false false) := by
  refine returnsInHanded_of_change_sized (C := Try.checked) own started (by kernel_rfl) Try.func8
    (ChangeSpec.witness6 (enc := enc) (C := Try.checked) false ⟨#[], #[.slice none 0 0, .bool false, .int .i64 0], []⟩ 8 (by kernel_rfl) (by kernel_rfl) (by kernel_rfl) (by kernel_rfl)) ?_
  intro W base args ds gs before hval0 hW hcnd hsz0 _
  have hsz : (DataW.weightsEach Try.prog (Try.f8.params.toList ++ Rows.skipRedsSpec.plain.varTypes Try.prog) (ds ++ gs)).all (· ≤ reachBytes) = true := hsz0
  have hval : ∀ (j : Nat) t v, Try.f8.params[j]? = some t → args[j]? = some v → Value.okWide Try.prog W .any base t v := hval0
  have hW' := hW
  obtain ⟨p, q, hA0, hV, rfl, hfz, hnd⟩ := hW
  have hA : DataW.TrodAll enc Try.prog W 0 (fun _ => true) true Try.f8.params.toList args.toList ds p := hA0
  rw [Try.params8] at hA hval hsz
  obtain ⟨v0, vs0, d0, ds0, p0, q0, hargs, rfl, rfl, h0, r0⟩ := trodAll_cons hA
  obtain ⟨v1, vs1, d1, ds1, p1, q1, rfl, rfl, rfl, h1, r1⟩ := trodAll_cons r0
  obtain ⟨v2, vs2, d2, ds2, p2, q2, rfl, rfl, rfl, h2, r2⟩ := trodAll_cons r1
  obtain ⟨rfl, rfl, rfl⟩ := trodAll_nil r2
  obtain rfl : args = #[v0, v1, v2] := by cases args; simp_all
  obtain ⟨rfl, rfl⟩ := trodVars_none hV
  have k0 := h0
  have k1 := h1
  have k2 := h2
  have lt0 : ∀ x ∈ p0, x.block < W.heap.size := by obtain ⟨m, hm⟩ := k0; exact DataW.trod_lt m _ _ _ hm
  have lt1 : ∀ x ∈ p1, x.block < W.heap.size := by obtain ⟨m, hm⟩ := k1; exact DataW.trod_lt m _ _ _ hm
  have lt2 : ∀ x ∈ p2, x.block < W.heap.size := by obtain ⟨m, hm⟩ := k2; exact DataW.trod_lt m _ _ _ hm
  obtain ⟨a0, len0, cap0, rfl⟩ := okWide_slice Try.underlying22 (hval 0 22 v0 rfl rfl)
  obtain ⟨fuel0, hf0⟩ := h0
  obtain ⟨l0, rfl, hr0, hc0, hm0, hw0⟩ := st3_row Try.underlying22 Try.underlying35 (by kernel_rfl) (by kernel_rfl) Try.underlying3 rfl rfl rfl k35 rfl (fun a b c => (⟨a, b, c⟩ : S35)) (fun w a b c => k35_mk w ⟨a, b, c⟩) (by simpa [Value.cells] using hf0)
  obtain ⟨a1, rfl, rfl, rfl⟩ := open_bool Try.underlying4 (hval 1 4 v1 rfl rfl) h1
  obtain ⟨a2, rfl, rfl, rfl, w2⟩ := open_int Try.underlying3 (hval 2 3 v2 rfl rfl) h2
  clear hA0 hval0 hsz0 hsz
  refine (tocsinlaw21_SkipReds.calls 9223372036854775990 a0 cap0 l0 a1 a2 true W hr0 hc0 (reds l0 a1 a2 9223372036854775990 (by omega))).mono fun e W' ⟨he, bel⟩ => ?_
  subst he
  exact ⟨_, rfl, _, _, _, _, _, [], hW', trodAll_mk1 (shut_bool Try.underlying4 _), (trodAll_cons_mk (Below.trod Try.laidOut (by kernel_rfl) (of_decide_eq_true (by kernel_rfl)) k0 bel lt0) (trodAll_cons_mk (Below.trod Try.laidOut (by kernel_rfl) (of_decide_eq_true (by kernel_rfl)) k1 bel lt1) (trodAll_cons_mk (Below.trod Try.laidOut (by kernel_rfl) (of_decide_eq_true (by kernel_rfl)) k2 bel lt2) trodAll_mk0))), rfl, bel.frame _, fun h => by cases h⟩
theorem over : Rows.skipRedsRow.holds Try.pinned (OpenSpec.ofChange Rows.skipRedsSpec) :=
  OpenClaim.holds_of_wide 8 Try.f8 rfl rfl rfl rfl rfl rfl rfl ⟨rfl, rfl, rfl, rfl, rfl⟩ rfl rfl rfl rfl rfl (by kernel_rfl) Try.func8 (by kernel_rfl)
    (of_decide_eq_true (by kernel_rfl)) (by unfold Func.isWrapper; first | (rw [if_pos (by decide +kernel)]; kernel_rfl) | (rw [if_neg (by decide +kernel)]; exact ⟨rfl, rfl⟩))
    (fun os started H enc _ => lifted os started H enc)
end Go.Proofs.Ytkjboaepeecinaa.Pure
namespace Go.Proofs.Ytkjboaepeecinaa
/-- The row, under a short name, for the claim. -/
theorem skipReds_holds : Rows.SkipRedsSaid := Pure.over
end Go.Proofs.Ytkjboaepeecinaa
#print axioms Go.Proofs.Ytkjboaepeecinaa.skipReds_holds
namespace Go.Proofs.Ytkjboaepeecinaa.Pure

end Go.Proofs.Ytkjboaepeecinaa.Pure
