/- Tasks that may skip nothing are run alike either way, and all their jobs are met: for every list of tasks, all ticks (of more than 6 tasks, of more than 300 ticks nothing is asked). -/
import Derived.Test.YtkjboaepeecinaaPSkPlain
import Derived.Test.YtkjboaepeecinaaPSkx0
import Derived.Test.YtkjboaepeecinaaSkFun
import Derived.Test.YtkjboaepeecinaaSkAsk
import Derived.Deep.Strs
import Derived.Deep.Slices
import Derived.Deep.Fields
import Derived.ChangeArms
import Derived.DataReads
import Derived.Test.YtkjboaepeecinaaRows
import Derived.WalkKit
import Derived.ProofKit
import Derived.OpenShut
import Derived.ShutString
import Derived.ChangeOld
import Derived.Below
import Derived.SizedLaws
import Derived.Carry
import Derived.Lib.SmallJoins
import Derived.Test.YtkjboaepeecinaaWSized
namespace Go.Proofs.Ytkjboaepeecinaa.Pure
open Go.RowKit Go.Proofs.Ytkjboaepeecinaa.PSk Go.Proofs.YtkjboaepeecinaaW.PrintWords Go.Proofs.YtkjboaepeecinaaW.PrintLast Go.Proofs.YtkjboaepeecinaaW.PrintMore 
set_option linter.unusedVariables false
set_option linter.unusedSimpArgs false

/-! A slice of structs of three whole numbers that came in: the list that it reads as. -/
section
open Go.Deep Go.ChangeShapes Go.WideShapes
variable {H : Type} {enc : TypeId × Value → H} {w : World} {base : Nat} {spare : Nat → Bool} {held : Bool}
theorem st3_cells {P : Program} {k : IntKind} {e ti : TypeId} {f0 f1 f2 : Field} (he : P.underlying e = some (.struct #[f0, f1, f2])) (hone : oneCellFields P #[f0, f1, f2] = true) (hC : P.cellsOf e = 3) (hi : P.underlying ti = some (.int k))
    (t0 : f0.type = ti) (t1 : f1.type = ti) (t2 : f2.type = ti) {fuel : Nat} {cs : List Value} {x : DataW H × List MemPlace} (h : DataW.trod enc P w base spare held fuel e cs = some x) :
    ∃ a b c : Int, cs = [.int k a, .int k b, .int k c] ∧ (Lit.int k a).wf = true ∧ (Lit.int k b).wf = true ∧ (Lit.int k c).wf = true := by
  obtain ⟨y0, y1, y2, n, _, hl, h0, h1, h2⟩ := trod_struct3 he h
  rw [hC] at hl
  match cs, hl with
  | [u, v, z], _ =>
    obtain ⟨o0, k0⟩ := hone_of hone 0 f0 rfl
    obtain ⟨o1, k1⟩ := hone_of hone 1 f1 rfl
    obtain ⟨o2, k2⟩ := hone_of hone 2 f2 rfl
    rw [o0, k0, t0] at h0; rw [o1, k1, t1] at h1; rw [o2, k2, t2] at h2
    obtain ⟨a, ea, _, wa⟩ := DataW.trod_int hi h0
    obtain ⟨b, eb, _, wb⟩ := DataW.trod_int hi h1
    obtain ⟨c, ec, _, wc⟩ := DataW.trod_int hi h2
    simp at ea eb ec
    subst ea eb ec
    exact ⟨a, b, c, rfl, wa, wb, wc⟩
theorem st3_row {P : Program} {k : IntKind} {t e ti : TypeId} {f0 f1 f2 : Field} (ht : P.underlying t = some (.slice e)) (he : P.underlying e = some (.struct #[f0, f1, f2])) (hone : oneCellFields P #[f0, f1, f2] = true) (hC : P.cellsOf e = 3) (hi : P.underlying ti = some (.int k))
    (t0 : f0.type = ti) (t1 : f1.type = ti) (t2 : f2.type = ti) {α : Type} (d : Kd α) (hd : d.sz = 3) (mk : Int → Int → Int → α) (hk : ∀ w a b c, d.K w (mk a b c) [.int k a, .int k b, .int k c])
    {fuel : Nat} {A : Option Addr} {len cap : Nat} {x : DataW H × List MemPlace} (h : DataW.trod enc P w base spare held fuel t [.slice A len cap] = some x) :
    ∃ l : List α, len = l.length ∧ Kd.C d w A l.length l ∧ l.length ≤ cap ∧ l.length ≤ maxLen ∧ ∀ y ∈ l, ∃ a b c, y = mk a b c ∧ (Lit.int k a).wf = true ∧ (Lit.int k b).wf = true ∧ (Lit.int k c).wf = true := by
  rcases open_slice ht h with ⟨h0, _⟩ | ⟨a, len', cap', m, n, D, Pl, hcs, hb, hl, hm, hmm, hx, hi'⟩
  · simp at h0
    obtain ⟨rfl, rfl, rfl⟩ := h0
    exact ⟨[], rfl, ⟨rfl, by simp, fun h => absurd h (by simp)⟩, by simp, by simp, by simp⟩
  · simp at hcs
    obtain ⟨rfl, rfl, rfl⟩ := hcs
    have hmlen : len ≤ m := by rw [hmm]; split <;> omega
    have hall : ∀ i, ∃ y : Int × Int × Int, i < len → (∀ j u, ([.int k y.1, .int k y.2.1, .int k y.2.2] : List Value)[j]? = some u → w.cell? (a.add (i * 3 + j)) = some u) ∧ (Lit.int k y.1).wf = true ∧ (Lit.int k y.2.1).wf = true ∧ (Lit.int k y.2.2).wf = true := by
      intro i
      by_cases hlt : i < len
      · obtain ⟨cs', hc, htr⟩ := hi' i (by omega)
        obtain ⟨p, q, r, rfl, wp, wq, wr⟩ := st3_cells he hone hC hi t0 t1 t2 htr
        rw [hC] at hc
        obtain ⟨_, _, hat⟩ := World.cells?_some hc
        refine ⟨(p, q, r), fun _ => ⟨fun j u hj => ?_, wp, wq, wr⟩⟩
        have hjl : j < 3 := by
          have := (List.getElem?_eq_some_iff.1 hj).1
          simpa using this
        have := hat j hjl
        rw [Go.Deep.add_add] at this
        rw [this]; exact hj
      · exact ⟨(0, 0, 0), fun h => absurd h hlt⟩
    have hY := fun i => Classical.choose_spec (hall i)
    generalize (fun i => Classical.choose (hall i)) = Y at hY
    refine ⟨(List.range len).map fun i => mk (Classical.choose (hall i)).1 (Classical.choose (hall i)).2.1 (Classical.choose (hall i)).2.2, by simp, ?_, by simp; omega, by simp; exact Nat.le_trans hl hm, ?_⟩
    · refine ⟨rfl, by simp; exact Nat.le_trans (Nat.le_trans hl hm) (by unfold maxLen; omega), fun _ => ⟨a, rfl, fun j p hj => ?_⟩⟩
      rw [List.getElem?_map] at hj
      have hjl : j < len := by
        by_cases g : j < len
        · exact g
        · rw [List.getElem?_eq_none (by simp; omega)] at hj; simp at hj
      rw [List.getElem?_eq_getElem (by simpa using hjl)] at hj
      simp at hj
      subst hj
      refine ⟨_, by rw [hd]; rfl, hk w _ _ _, fun i u hu => ?_⟩
      rw [hd]
      exact (Classical.choose_spec (hall j) hjl).1 i u hu
    · intro y hy
      obtain ⟨i, hi2, rfl⟩ := List.mem_map.1 hy
      have hil : i < len := by simpa using hi2
      have := (Classical.choose_spec (hall i) hil).2
      exact ⟨_, _, _, rfl, this⟩
end

theorem tq_n {b : Bool} {k : Int} {x : St} (h : okS b k x) (hk : 0 ≤ k) : (tq b k x).n ≠ -1 := by
  rcases tq_cases h with ⟨he, hq⟩ | ⟨he, hq⟩
  · rw [hq]
    have := h.2.2.2.1
    show x.n + 1 ≠ -1
    omega
  · rw [hq]
    intro hn
    have h5 := h.2.2.2.2.1
    rw [hn] at h5
    simp at h5
    omega
theorem plain_same (S0 : List St) (h0 : ∀ b, ∀ x ∈ S0, okS b 0 x) (hs : ∀ x ∈ S0, x.s = 0) : ∀ k : Nat, runTo false S0 k = runTo true S0 k
  | 0 => rfl
  | k + 1 => by
    have ih := plain_same S0 h0 hs k
    have hok := run_okS true S0 (h0 true) k
    have hl := runTo_len true S0 k
    have hz : ∀ x ∈ (runTo true S0 k).S, x.s = 0 := fun x hx => by
      obtain ⟨i, hi, rfl⟩ := List.mem_iff_getElem.1 hx
      have hi0 : i < S0.length := by omega
      rw [run_skip true S0 k i _ (List.getElem?_eq_getElem hi) _ (List.getElem?_eq_getElem hi0)]
      exact hs _ (List.getElem_mem hi0)
    rw [runTo, runTo, ih]
    generalize runTo true S0 k = r at *
    have em : r.S.map (tq false k) = r.S.map (tq true k) := List.map_congr_left fun x hx => by
      unfold tq turnS colR
      rw [hz x hx, if_pos rfl, if_pos rfl]
    have ea : atS false (r.S.map (tq true k)) = atS true (r.S.map (tq true k)) := by
      unfold atS
      rw [if_neg (by simp)]
      split
      · rename_i h
        rcases firstS_spec false (r.S.map (tq true k)) with ⟨e, _⟩ | ⟨b, x, _, hx, hr, _⟩
        · rw [e, h.1]
        · exfalso
          have hm := List.mem_of_getElem? hx
          obtain ⟨y, hy, rfl⟩ := List.mem_map.1 hm
          have hq := tq_ok (hok y hy)
          have hn := tq_n (hok y hy) (by omega)
          have hsy : (tq true (k : Int) y).s = 0 := by rw [(tq_alike true k y).2.2]; exact hz y hy
          rcases hq.2.2.2.2.2.2.2.2.2.1 hsy with h | h
          · exact hn h
          · rw [hr] at h; cases h
      · rfl
    simp only [stepS]
    rw [em, ea]
theorem plain_l1 (T T' : List Int) (M : List S33) (hM : M.length ≤ 1000000) (hr : ∀ m ∈ M, m.f2 = true ∧ m.f3 = true) : ∀ (d k i : Nat), i ≤ M.length → M.length - i = d → d < k → tocsinlaw21_SkipPlain.l1 k (i : Int) T M T' M = some true := by
  intro d
  induction d with
  | zero =>
    intro k i hi hd hk
    obtain ⟨k, rfl⟩ : ∃ m, k = m + 1 := ⟨k - 1, by omega⟩
    simp only [tocsinlaw21_SkipPlain.l1]
    rw [if_neg (by omega)]
  | succ d ih =>
    intro k i hi hd hk
    obtain ⟨k, rfl⟩ : ∃ m, k = m + 1 := ⟨k - 1, by omega⟩
    simp only [tocsinlaw21_SkipPlain.l1]
    have go := ih k (i + 1) (by omega) (by omega) (by omega)
    have hmem : rd_T33 M (i : Int) ∈ M := by
      unfold rd_T33
      rw [List.getD_eq_getElem?_getD, show ((i : Int)).toNat = i by omega, List.getElem?_eq_getElem (by omega)]
      exact List.getElem_mem _
    have h1 := hr _ hmem
    rw [if_pos (by omega), if_pos (by omega), if_pos h1.2, if_pos h1.1, if_pos (by omega), if_neg (by simp), w64 (x := (i : Int) + 1) (by omega) (by omega)]
    exact go
def noSkip (t : S35) : S35 := ⟨t.f0, t.f1, 0⟩
theorem plain_run (m : List S35) (hs : ∀ t ∈ m, t.f2 = 0) (t : Int) (k : Nat) (hk : 9223372036854775900 ≤ k) (K : Bool → Option Bool) : 
    ((tocsinlaw21_light.f k m t).bind fun t321 => (if t321 = true then ((skip_Run.f m false t).bind fun bt322 => ((skip_Run.f m true t).bind fun bt330 => (if bt322.2.2 = bt330.2.2 then ((tocsinlaw21_ints.f k bt322.1 bt330.1).bind fun t338 => (if t338 = true then (tocsinlaw21_SkipPlain.j1 k ((bt322.2.1.length : Int) != (bt330.2.1.length : Int)) bt322.1 bt322.2.1 bt330.1 bt330.2.1) else (tocsinlaw21_SkipPlain.j1 k true bt322.1 bt322.2.1 bt330.1 bt330.2.1))) else (tocsinlaw21_SkipPlain.j1 k true bt322.1 bt322.2.1 bt330.1 bt330.2.1)))) else (some true))) = some true := by
  rw [light_is k hk]
  simp only [Option.bind_some]
  by_cases hL : lightS m t = true
  · have hb := lightS_bd hL
    rw [if_pos hL]
    have end_ : ∀ (e : Int) (T : List Int) (M : List S33), T.length ≤ 1000000 → M.length ≤ 1000000 → (∀ m ∈ M, m.f2 = true ∧ m.f3 = true) → skip_Run.f m false t = some (T, M, e) → skip_Run.f m true t = some (T, M, e) → ((skip_Run.f m false t).bind fun bt322 => ((skip_Run.f m true t).bind fun bt330 => (if bt322.2.2 = bt330.2.2 then ((tocsinlaw21_ints.f k bt322.1 bt330.1).bind fun t338 => (if t338 = true then (tocsinlaw21_SkipPlain.j1 k ((bt322.2.1.length : Int) != (bt330.2.1.length : Int)) bt322.1 bt322.2.1 bt330.1 bt330.2.1) else (tocsinlaw21_SkipPlain.j1 k true bt322.1 bt322.2.1 bt330.1 bt330.2.1))) else (tocsinlaw21_SkipPlain.j1 k true bt322.1 bt322.2.1 bt330.1 bt330.2.1)))) = some true := by
      intro e T M hT hM hr h1 h2
      rw [h1, h2]
      simp only [Option.bind_some, if_true]
      rw [ints_same T hT k (by omega)]
      simp only [Option.bind_some, if_true]
      rw [show ((M.length : Int) != (M.length : Int)) = false by simp]
      obtain ⟨k, rfl⟩ : ∃ m, k = m + 1 := ⟨k - 1, by omega⟩
      simp only [tocsinlaw21_SkipPlain.j1, Bool.false_eq_true, if_false]
      exact plain_l1 T T M hM hr M.length k 0 (by omega) (by omega) (by omega)
    by_cases ht : t < 0
    · exact end_ 1 [] [] (by simp) (by simp) (fun m hm => by cases hm) (run_neg m false t ht) (run_neg m true t ht)
    by_cases hH : heldS m
    · obtain ⟨hl1, hl2⟩ := run_len hH true t (by omega) (by omega)
      have hS : ∀ x ∈ m.map iniT, x.s = 0 := fun x hx => by
        obtain ⟨y, hy, rfl⟩ := List.mem_map.1 hx
        exact hs y hy
      have hsame := plain_same (m.map iniT) (fun b => (held_ini hH b).1) hS t.toNat
      obtain ⟨ok0, ini0⟩ := held_ini hH true
      have hmet := reds_met true (m.map iniT) ok0 ini0 (held_ask hH) t.toNat
      have hred := marks_red true (m.map iniT) ok0 hS t.toNat
      have e1 := run_ok m false t (by omega) (by omega) hH
      have e2 := run_ok m true t (by omega) (by omega) hH
      rw [hsame] at e1
      exact end_ 0 _ _ (by omega) (by omega) (fun q hq => ⟨hred q hq, hmet q hq (hred q hq)⟩) e1 e2
    · obtain ⟨e, he, hr⟩ := run_err m false t (by omega) (by omega) hH
      exact end_ e [] [] (by simp) (by simp) (fun m hm => by cases hm) (hr false t (by omega) (by omega)) (hr true t (by omega) (by omega))
  · rw [if_neg hL]
theorem plain_l0 (l : List S35) (t : Int) (hl : l.length ≤ 20) : ∀ (d k i : Nat), i ≤ l.length → l.length - i = d → d + 9223372036854775920 < k → tocsinlaw21_SkipPlain.l0 k l t ((l.take i).map noSkip) (i : Int) = some true := by
  intro d
  induction d with
  | zero =>
    intro k i hi hd hk
    obtain ⟨k, rfl⟩ : ∃ m, k = m + 1 := ⟨k - 1, by omega⟩
    simp only [tocsinlaw21_SkipPlain.l0]
    rw [if_neg (by omega)]
    exact plain_run _ (fun x hx => by obtain ⟨y, _, rfl⟩ := List.mem_map.1 hx; rfl) t k (by omega) (fun _ => none)
  | succ d ih =>
    intro k i hi hd hk
    obtain ⟨k, rfl⟩ : ∃ m, k = m + 1 := ⟨k - 1, by omega⟩
    simp only [tocsinlaw21_SkipPlain.l0]
    have go := ih k (i + 1) (by omega) (by omega) (by omega)
    have hx : rd_T35 l (i : Int) = l[i]'(by omega) := by
      unfold rd_T35
      rw [List.getD_eq_getElem?_getD, show ((i : Int)).toNat = i by omega, List.getElem?_eq_getElem (by omega)]
      rfl
    rw [if_pos (by omega), if_pos (by omega), if_pos (by simp; omega), w64 (x := (i : Int) + 1) (by omega) (by omega), hx]
    rw [List.take_succ_eq_append_getElem (by omega), List.map_append] at go
    exact go
theorem plain (l : List S35) (t : Int) (k : Nat) (hk : 9223372036854775990 ≤ k) : tocsinlaw21_SkipPlain.f k l t = some true := by
  unfold tocsinlaw21_SkipPlain.f
  rw [awake_is k (by omega), light_is k (by omega)]
  simp only [Option.bind_some, if_true]
  by_cases hL : lightS l t = true
  · have hb := lightS_bd hL
    rw [if_pos hL]
    exact plain_l0 l t (by omega) l.length k 0 (by omega) (by omega) (by omega)
  · rw [if_neg hL]
theorem own : ownKnob Try.prog.godebug = none := by kernel_rfl
theorem Try.laidOut : laidOutB Try.prog = true := by kernel_rfl
open Go.ChangeShapes Go.WideShapes Go.ChangeAt Go.RowKit
open Go.ChangeMaps (open_string shut_string)
set_option maxRecDepth 100000 in
theorem lifted (os : Os) (started : os.Started) (H : Type) (enc : TypeId × Value → H) :
    ReturnsInHanded {} Try.checked os 4 .any (Rows.skipPlainSpec.pre6 enc Try.prog Try.f4 Rows.skipPlainRow.domain false) (Rows.skipPlainSpec.post enc Try.prog Try.f4 false true false false) := by
  refine returnsInHanded_of_change_sized (C := Try.checked) own started (by kernel_rfl) Try.func4
    (ChangeSpec.witness6 (enc := enc) (C := Try.checked) false ⟨#[], #[.slice none 0 0, .int .i64 0], []⟩ 8 (by kernel_rfl) (by kernel_rfl) (by kernel_rfl) (by kernel_rfl)) ?_
  intro W base args ds gs before hval0 hW hcnd hsz0 _
  have hsz : (DataW.weightsEach Try.prog (Try.f4.params.toList ++ Rows.skipPlainSpec.plain.varTypes Try.prog) (ds ++ gs)).all (· ≤ reachBytes) = true := hsz0
  have hval : ∀ (j : Nat) t v, Try.f4.params[j]? = some t → args[j]? = some v → Value.okWide Try.prog W .any base t v := hval0
  have hW' := hW
  obtain ⟨p, q, hA0, hV, rfl, hfz, hnd⟩ := hW
  have hA : DataW.TrodAll enc Try.prog W 0 (fun _ => true) true Try.f4.params.toList args.toList ds p := hA0
  rw [Try.params4] at hA hval hsz
  obtain ⟨v0, vs0, d0, ds0, p0, q0, hargs, rfl, rfl, h0, r0⟩ := trodAll_cons hA
  obtain ⟨v1, vs1, d1, ds1, p1, q1, rfl, rfl, rfl, h1, r1⟩ := trodAll_cons r0
  obtain ⟨rfl, rfl, rfl⟩ := trodAll_nil r1
  obtain rfl : args = #[v0, v1] := by cases args; simp_all
  obtain ⟨rfl, rfl⟩ := trodVars_none hV
  have k0 := h0
  have k1 := h1
  have lt0 : ∀ x ∈ p0, x.block < W.heap.size := by obtain ⟨m, hm⟩ := k0; exact DataW.trod_lt m _ _ _ hm
  have lt1 : ∀ x ∈ p1, x.block < W.heap.size := by obtain ⟨m, hm⟩ := k1; exact DataW.trod_lt m _ _ _ hm
  obtain ⟨a0, len0, cap0, rfl⟩ := okWide_slice Try.underlying22 (hval 0 22 v0 rfl rfl)
  obtain ⟨fuel0, hf0⟩ := h0
  obtain ⟨l0, rfl, hr0, hc0, hm0, hw0⟩ := st3_row Try.underlying22 Try.underlying35 (by kernel_rfl) (by kernel_rfl) Try.underlying3 rfl rfl rfl k35 rfl (fun a b c => (⟨a, b, c⟩ : S35)) (fun w a b c => k35_mk w ⟨a, b, c⟩) (by simpa [Value.cells] using hf0)
  obtain ⟨a1, rfl, rfl, rfl, w1⟩ := open_int Try.underlying3 (hval 1 3 v1 rfl rfl) h1
  clear hA0 hval0 hsz0 hsz
  refine (tocsinlaw21_SkipPlain.calls 9223372036854775990 a0 cap0 l0 a1 true W hr0 hc0 (plain l0 a1 9223372036854775990 (by omega))).mono fun e W' ⟨he, bel⟩ => ?_
  subst he
  exact ⟨_, rfl, _, _, _, _, _, [], hW', trodAll_mk1 (shut_bool Try.underlying4 _), (trodAll_cons_mk (Below.trod Try.laidOut (by kernel_rfl) (of_decide_eq_true (by kernel_rfl)) k0 bel lt0) (trodAll_cons_mk (Below.trod Try.laidOut (by kernel_rfl) (of_decide_eq_true (by kernel_rfl)) k1 bel lt1) trodAll_mk0)), rfl, bel.frame _, fun h => by cases h⟩
theorem over : Rows.skipPlainRow.holds Try.pinned (OpenSpec.ofChange Rows.skipPlainSpec) :=
  OpenClaim.holds_of_wide 4 Try.f4 rfl rfl rfl rfl rfl rfl rfl ⟨rfl, rfl, rfl, rfl, rfl⟩ rfl rfl rfl rfl rfl (by kernel_rfl) Try.func4 (by kernel_rfl)
    (of_decide_eq_true (by kernel_rfl)) (by unfold Func.isWrapper; first | (rw [if_pos (by decide +kernel)]; kernel_rfl) | (rw [if_neg (by decide +kernel)]; exact ⟨rfl, rfl⟩))
    (fun os started H enc _ => lifted os started H enc)
end Go.Proofs.Ytkjboaepeecinaa.Pure
namespace Go.Proofs.Ytkjboaepeecinaa
/-- The row, under a short name, for the claim. -/
theorem skipPlain_holds : Rows.SkipPlainSaid := Pure.over
end Go.Proofs.Ytkjboaepeecinaa
#print axioms Go.Proofs.Ytkjboaepeecinaa.skipPlain_holds
namespace Go.Proofs.Ytkjboaepeecinaa.Pure

end Go.Proofs.Ytkjboaepeecinaa.Pure
