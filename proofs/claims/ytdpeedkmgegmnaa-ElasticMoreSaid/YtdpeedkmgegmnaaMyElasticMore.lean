/- With more room nobody has less: for every list of springs (of more than twelve nothing is asked), every room (of more than is told nothing is asked) and up to a million more. -/
import Derived.Test.YtdpeedkmgegmnaaPElx4
import Derived.Test.YtdpeedkmgegmnaaElKit
import Derived.Deep.Strs
import Derived.Deep.Slices
import Derived.Deep.Fields
import Derived.ChangeArms
import Derived.DataReads
import Derived.Test.YtdpeedkmgegmnaaRows
import Derived.WalkKit
import Derived.ProofKit
import Derived.OpenShut
import Derived.ShutString
import Derived.ChangeOld
import Derived.Below
import Derived.SizedLaws
import Derived.Carry
import Derived.Lib.SmallJoins
import Derived.Test.YtdpeedkmgegmnaaWSized
namespace Go.Proofs.Ytdpeedkmgegmnaa.Pure
open Go.RowKit Go.Proofs.Ytdpeedkmgegmnaa.PEl Go.Proofs.YtdpeedkmgegmnaaW.PrintWords Go.Proofs.YtdpeedkmgegmnaaW.PrintLast Go.Proofs.YtdpeedkmgegmnaaW.PrintMore 
set_option linter.unusedVariables false
set_option linter.unusedSimpArgs false

/-! A slice of structs of three whole numbers that came in: the list that it reads as. -/
section
open Go.Deep Go.ChangeShapes Go.WideShapes
variable {H : Type} {enc : TypeId × Value → H} {w : World} {base : Nat} {spare : Nat → Bool} {held : Bool}
theorem st3_cells {P : Program} {k : IntKind} {e ti : TypeId} {f0 f1 f2 : Field} (he : P.underlying e = some (.struct #[f0, f1, f2])) (hone : oneCellFields P #[f0, f1, f2] = true) (hC : P.cellsOf e = 3) (hi : P.underlying ti = some (.int k))
    (t0 : f0.type = ti) (t1 : f1.type = ti) (t2 : f2.type = ti) {fuel : Nat} {cs : List Value} {x : DataW H × List MemPlace} (h : DataW.trod enc P w base spare held fuel e cs = some x) :
    ∃ a b c : Int, cs = [.int k a, .int k b, .int k c] ∧ (Lit.int k a).wf = true ∧ (Lit.int k b).wf = true ∧ (Lit.int k c).wf = true := by
  obtain ⟨y0, y1, y2, n, _, hl, h0, h1, h2⟩ := trod_struct3 he h
  rw [hC] at hl
  match cs, hl with
  | [u, v, z], _ =>
    obtain ⟨o0, k0⟩ := hone_of hone 0 f0 rfl
    obtain ⟨o1, k1⟩ := hone_of hone 1 f1 rfl
    obtain ⟨o2, k2⟩ := hone_of hone 2 f2 rfl
    rw [o0, k0, t0] at h0; rw [o1, k1, t1] at h1; rw [o2, k2, t2] at h2
    obtain ⟨a, ea, _, wa⟩ := DataW.trod_int hi h0
    obtain ⟨b, eb, _, wb⟩ := DataW.trod_int hi h1
    obtain ⟨c, ec, _, wc⟩ := DataW.trod_int hi h2
    simp at ea eb ec
    subst ea eb ec
    exact ⟨a, b, c, rfl, wa, wb, wc⟩
theorem st3_row {P : Program} {k : IntKind} {t e ti : TypeId} {f0 f1 f2 : Field} (ht : P.underlying t = some (.slice e)) (he : P.underlying e = some (.struct #[f0, f1, f2])) (hone : oneCellFields P #[f0, f1, f2] = true) (hC : P.cellsOf e = 3) (hi : P.underlying ti = some (.int k))
    (t0 : f0.type = ti) (t1 : f1.type = ti) (t2 : f2.type = ti) {α : Type} (d : Kd α) (hd : d.sz = 3) (mk : Int → Int → Int → α) (hk : ∀ w a b c, d.K w (mk a b c) [.int k a, .int k b, .int k c])
    {fuel : Nat} {A : Option Addr} {len cap : Nat} {x : DataW H × List MemPlace} (h : DataW.trod enc P w base spare held fuel t [.slice A len cap] = some x) :
    ∃ l : List α, len = l.length ∧ Kd.C d w A l.length l ∧ l.length ≤ cap ∧ l.length ≤ maxLen ∧ ∀ y ∈ l, ∃ a b c, y = mk a b c ∧ (Lit.int k a).wf = true ∧ (Lit.int k b).wf = true ∧ (Lit.int k c).wf = true := by
  rcases open_slice ht h with ⟨h0, _⟩ | ⟨a, len', cap', m, n, D, Pl, hcs, hb, hl, hm, hmm, hx, hi'⟩
  · simp at h0
    obtain ⟨rfl, rfl, rfl⟩ := h0
    exact ⟨[], rfl, ⟨rfl, by simp, fun h => absurd h (by simp)⟩, by simp, by simp, by simp⟩
  · simp at hcs
    obtain ⟨rfl, rfl, rfl⟩ := hcs
    have hmlen : len ≤ m := by rw [hmm]; split <;> omega
    have hall : ∀ i, ∃ y : Int × Int × Int, i < len → (∀ j u, ([.int k y.1, .int k y.2.1, .int k y.2.2] : List Value)[j]? = some u → w.cell? (a.add (i * 3 + j)) = some u) ∧ (Lit.int k y.1).wf = true ∧ (Lit.int k y.2.1).wf = true ∧ (Lit.int k y.2.2).wf = true := by
      intro i
      by_cases hlt : i < len
      · obtain ⟨cs', hc, htr⟩ := hi' i (by omega)
        obtain ⟨p, q, r, rfl, wp, wq, wr⟩ := st3_cells he hone hC hi t0 t1 t2 htr
        rw [hC] at hc
        obtain ⟨_, _, hat⟩ := World.cells?_some hc
        refine ⟨(p, q, r), fun _ => ⟨fun j u hj => ?_, wp, wq, wr⟩⟩
        have hjl : j < 3 := by
          have := (List.getElem?_eq_some_iff.1 hj).1
          simpa using this
        have := hat j hjl
        rw [Go.Deep.add_add] at this
        rw [this]; exact hj
      · exact ⟨(0, 0, 0), fun h => absurd h hlt⟩
    have hY := fun i => Classical.choose_spec (hall i)
    generalize (fun i => Classical.choose (hall i)) = Y at hY
    refine ⟨(List.range len).map fun i => mk (Classical.choose (hall i)).1 (Classical.choose (hall i)).2.1 (Classical.choose (hall i)).2.2, by simp, ?_, by simp; omega, by simp; exact Nat.le_trans hl hm, ?_⟩
    · refine ⟨rfl, by simp; exact Nat.le_trans (Nat.le_trans hl hm) (by unfold maxLen; omega), fun _ => ⟨a, rfl, fun j p hj => ?_⟩⟩
      rw [List.getElem?_map] at hj
      have hjl : j < len := by
        by_cases g : j < len
        · exact g
        · rw [List.getElem?_eq_none (by simp; omega)] at hj; simp at hj
      rw [List.getElem?_eq_getElem (by simpa using hjl)] at hj
      simp at hj
      subst hj
      refine ⟨_, by rw [hd]; rfl, hk w _ _ _, fun i u hu => ?_⟩
      rw [hd]
      exact (Classical.choose_spec (hall j) hjl).1 i u hu
    · intro y hy
      obtain ⟨i, hi2, rfl⟩ := List.mem_map.1 hy
      have hil : i < len := by simpa using hi2
      have := (Classical.choose_spec (hall i) hil).2
      exact ⟨_, _, _, rfl, this⟩
end

theorem loop {l : List SpE} (hlen : l.length ≤ 20) (x y : Nat → Int) (h : ∀ i, i < l.length → x i ≤ y i) : ∀ (d k i : Nat), i ≤ l.length → l.length - i = d → d + 1 < k →
    tocsinlaw13_ElasticMore.l0 k l ((List.range l.length).map x) ((List.range l.length).map y) (i : Int) = some true := by
  intro d
  induction d with
  | zero =>
    intro k i hi hd hk
    obtain ⟨k, rfl⟩ : ∃ m, k = m + 1 := ⟨k - 1, by omega⟩
    simp only [tocsinlaw13_ElasticMore.l0]
    rw [if_neg (by omega)]
  | succ d ih =>
    intro k i hi hd hk
    obtain ⟨k, rfl⟩ : ∃ m, k = m + 1 := ⟨k - 1, by omega⟩
    have hn := ih k (i + 1) (by omega) (by omega) (by omega)
    simp only [tocsinlaw13_ElasticMore.l0]
    have hi2 := h i (by omega)
    rw [if_pos (by omega), if_pos (by omega), if_pos (by simp; omega), if_pos (by simp; omega), rd_map x _ i (by omega), rd_map y _ i (by omega), if_neg (by omega)]
    rw [w64 (x := (i : Int) + 1) (by omega) (by omega), show ((i : Int) + 1) = ((i + 1 : Nat) : Int) by omega]
    exact hn
theorem fin (k : Nat) {l : List SpE} (hlen : l.length ≤ 20) (x y : Nat → Int) (h : ∀ i, i < l.length → x i ≤ y i) (hk : 100 ≤ k) :
    (if (((List.range l.length).map x).length : Int) = (l.length : Int) then tocsinlaw13_ElasticMore.j1 k l ((List.range l.length).map x) ((List.range l.length).map y) ((((List.range l.length).map y).length : Int) != (l.length : Int)) else tocsinlaw13_ElasticMore.j1 k l ((List.range l.length).map x) ((List.range l.length).map y) true) = some true := by
  obtain ⟨k, rfl⟩ : ∃ m, k = m + 1 := ⟨k - 1, by omega⟩
  rw [if_pos (by simp)]
  simp only [tocsinlaw13_ElasticMore.j1]
  rw [if_neg (by simp)]
  exact loop hlen x y h l.length k 0 (by omega) (by omega) (by omega)
theorem law (l : List SpE) (room by' : Int) : tocsinlaw13_ElasticMore.f 300 l room by' = some true := by
  unfold tocsinlaw13_ElasticMore.f
  rw [awake_is _ (by omega)]
  simp only [Option.bind_some, if_true, tocsinlaw13_ElasticMore.j0]
  refine g_if fun hlen => g_if fun hb0 => g_if fun hb1 => ?_
  by_cases hr : room > 62914560
  · rw [decide_eq_true hr]; rfl
  rw [decide_eq_false hr]
  simp only [Bool.false_eq_true, if_false]
  rcases Press_is 299 l room (by omega) with ⟨h, e⟩ | ⟨h, h2, e⟩ | ⟨h, h2, hh⟩
  · rw [e]
    simp only [Option.bind_some]
    rcases Press_is 299 l (wrap64 (room + by')) (by omega) with ⟨_, e⟩ | ⟨_, _, e⟩ | ⟨_, _, ⟨_, e⟩ | ⟨_, _, _, e⟩⟩ <;> rw [e] <;> rfl
  · rw [e]
    simp only [Option.bind_some]
    rcases Press_is 299 l (wrap64 (room + by')) (by omega) with ⟨_, e⟩ | ⟨_, _, e⟩ | ⟨_, _, ⟨_, e⟩ | ⟨_, _, _, e⟩⟩ <;> rw [e] <;> rfl
  · rw [w64 (x := room + by') (by omega) (by omega)]
    have hl := h.1.1
    rcases Press_is 299 l (room + by') (by omega) with ⟨g, e'⟩ | ⟨g, g2, e'⟩ | ⟨g, g2, gg⟩
    · exact absurd ⟨h.1, by omega, by omega⟩ g
    · omega
    · rcases hh with ⟨h3, e⟩ | ⟨h3, hE, h4, e⟩ <;> rcases gg with ⟨g3, e'⟩ | ⟨g3, gE, g4, e'⟩ <;> rw [e, e'] <;> simp only [Option.bind_some, if_true]
      · exact fin 299 hl _ _ (fun i _ => Int.le_refl _) (by omega)
      · omega
      · exact fin 299 hl _ _ (fun i hi => (out_range (good_N h.1) h2 h4.toFinN i hi).2.1) (by omega)
      · refine fin 299 hl _ _ (fun i hi => ?_) (by omega)
        exact more_out (good_N h.1) h2 (by omega) h4.toFinN g4.toFinN (g4.least hE room (by omega) h2 h4.toFinN) i hi
theorem own : ownKnob Try.prog.godebug = none := by kernel_rfl
theorem Try.laidOut : laidOutB Try.prog = true := by kernel_rfl
open Go.ChangeShapes Go.WideShapes Go.ChangeAt Go.RowKit
open Go.ChangeMaps (open_string shut_string)
set_option maxRecDepth 100000 in
theorem lifted (os : Os) (started : os.Started) (H : Type) (enc : TypeId × Value → H) :
    ReturnsInHanded {} Try.checked os 5 .any (Rows.elasticMoreSpec.pre6 enc Try.prog Try.f5 Rows.elasticMoreRow.domain false) (Rows.elasticMoreSpec.post enc Try.prog Try.f5 false true false false) := by
  refine returnsInHanded_of_change_sized (C := Try.checked) own started (by kernel_rfl) Try.func5
    (ChangeSpec.witness6 (enc := enc) (C := Try.checked) false ⟨#[], #[.slice none 0 0, .int .i64 0, .int .i64 0], []⟩ 8 (by kernel_rfl) (by kernel_rfl) (by kernel_rfl) (by kernel_rfl)) ?_
  intro W base args ds gs before hval0 hW hcnd hsz0 _
  have hsz : (DataW.weightsEach Try.prog (Try.f5.params.toList ++ Rows.elasticMoreSpec.plain.varTypes Try.prog) (ds ++ gs)).all (· ≤ reachBytes) = true := hsz0
  have hval : ∀ (j : Nat) t v, Try.f5.params[j]? = some t → args[j]? = some v → Value.okWide Try.prog W .any base t v := hval0
  have hW' := hW
  obtain ⟨p, q, hA0, hV, rfl, hfz, hnd⟩ := hW
  have hA : DataW.TrodAll enc Try.prog W 0 (fun _ => true) true Try.f5.params.toList args.toList ds p := hA0
  rw [Try.params5] at hA hval hsz
  obtain ⟨v0, vs0, d0, ds0, p0, q0, hargs, rfl, rfl, h0, r0⟩ := trodAll_cons hA
  obtain ⟨v1, vs1, d1, ds1, p1, q1, rfl, rfl, rfl, h1, r1⟩ := trodAll_cons r0
  obtain ⟨v2, vs2, d2, ds2, p2, q2, rfl, rfl, rfl, h2, r2⟩ := trodAll_cons r1
  obtain ⟨rfl, rfl, rfl⟩ := trodAll_nil r2
  obtain rfl : args = #[v0, v1, v2] := by cases args; simp_all
  obtain ⟨rfl, rfl⟩ := trodVars_none hV
  have k0 := h0
  have k1 := h1
  have k2 := h2
  have lt0 : ∀ x ∈ p0, x.block < W.heap.size := by obtain ⟨m, hm⟩ := k0; exact DataW.trod_lt m _ _ _ hm
  have lt1 : ∀ x ∈ p1, x.block < W.heap.size := by obtain ⟨m, hm⟩ := k1; exact DataW.trod_lt m _ _ _ hm
  have lt2 : ∀ x ∈ p2, x.block < W.heap.size := by obtain ⟨m, hm⟩ := k2; exact DataW.trod_lt m _ _ _ hm
  obtain ⟨a0, len0, cap0, rfl⟩ := okWide_slice Try.underlying22 (hval 0 22 v0 rfl rfl)
  obtain ⟨fuel0, hf0⟩ := h0
  obtain ⟨l0, rfl, hr0, hc0, hm0, hw0⟩ := st3_row Try.underlying22 Try.underlying29 (by kernel_rfl) (by kernel_rfl) Try.underlying2 rfl rfl rfl k29 rfl (fun a b c => (⟨a, b, c⟩ : S29)) (fun w a b c => k29_mk w ⟨a, b, c⟩) (by simpa [Value.cells] using hf0)
  obtain ⟨a1, rfl, rfl, rfl, w1⟩ := open_int Try.underlying2 (hval 1 2 v1 rfl rfl) h1
  obtain ⟨a2, rfl, rfl, rfl, w2⟩ := open_int Try.underlying2 (hval 2 2 v2 rfl rfl) h2
  clear hA0 hval0 hsz0 hsz
  refine (tocsinlaw13_ElasticMore.calls 300 a0 cap0 l0 a1 a2 true W hr0 hc0 (law l0 a1 a2)).mono fun e W' ⟨he, bel⟩ => ?_
  subst he
  exact ⟨_, rfl, _, _, _, _, _, [], hW', trodAll_mk1 (shut_bool Try.underlying4 _), (trodAll_cons_mk (Below.trod Try.laidOut (by kernel_rfl) (of_decide_eq_true (by kernel_rfl)) k0 bel lt0) (trodAll_cons_mk (Below.trod Try.laidOut (by kernel_rfl) (of_decide_eq_true (by kernel_rfl)) k1 bel lt1) (trodAll_cons_mk (Below.trod Try.laidOut (by kernel_rfl) (of_decide_eq_true (by kernel_rfl)) k2 bel lt2) trodAll_mk0))), rfl, bel.frame _, fun h => by cases h⟩
theorem over : Rows.elasticMoreRow.holds Try.pinned (OpenSpec.ofChange Rows.elasticMoreSpec) :=
  OpenClaim.holds_of_wide 5 Try.f5 rfl rfl rfl rfl rfl rfl rfl ⟨rfl, rfl, rfl, rfl, rfl⟩ rfl rfl rfl rfl rfl (by kernel_rfl) Try.func5 (by kernel_rfl)
    (of_decide_eq_true (by kernel_rfl)) (by unfold Func.isWrapper; first | (rw [if_pos (by decide +kernel)]; kernel_rfl) | (rw [if_neg (by decide +kernel)]; exact ⟨rfl, rfl⟩))
    (fun os started H enc _ => lifted os started H enc)
end Go.Proofs.Ytdpeedkmgegmnaa.Pure
namespace Go.Proofs.Ytdpeedkmgegmnaa
/-- The row, under a short name, for the claim. -/
theorem elasticMore_holds : Rows.ElasticMoreSaid := Pure.over
end Go.Proofs.Ytdpeedkmgegmnaa
#print axioms Go.Proofs.Ytdpeedkmgegmnaa.elasticMore_holds
namespace Go.Proofs.Ytdpeedkmgegmnaa.Pure

end Go.Proofs.Ytdpeedkmgegmnaa.Pure
