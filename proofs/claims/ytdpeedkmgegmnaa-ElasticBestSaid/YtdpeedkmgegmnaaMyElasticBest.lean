/- No share that is moved from one spring to another, and may be, costs less, but for what was lost by rounding: for every list of two to eight springs, every room and any up to a thousand moved (of others nothing is asked). -/
import Derived.Test.YtdpeedkmgegmnaaPElx3
import Derived.Test.YtdpeedkmgegmnaaPElBest
import Derived.Test.YtdpeedkmgegmnaaElKit
import Derived.Deep.Strs
import Derived.Deep.Slices
import Derived.Deep.Fields
import Derived.ChangeArms
import Derived.DataReads
import Derived.Test.YtdpeedkmgegmnaaRows
import Derived.WalkKit
import Derived.ProofKit
import Derived.OpenShut
import Derived.ShutString
import Derived.ChangeOld
import Derived.Below
import Derived.SizedLaws
import Derived.Carry
import Derived.Lib.SmallJoins
import Derived.Test.YtdpeedkmgegmnaaWSized
namespace Go.Proofs.Ytdpeedkmgegmnaa.Pure
open Go.RowKit Go.Proofs.Ytdpeedkmgegmnaa.PEl Go.Proofs.YtdpeedkmgegmnaaW.PrintWords Go.Proofs.YtdpeedkmgegmnaaW.PrintLast Go.Proofs.YtdpeedkmgegmnaaW.PrintMore 
set_option linter.unusedVariables false
set_option linter.unusedSimpArgs false

/-! A slice of structs of three whole numbers that came in: the list that it reads as. -/
section
open Go.Deep Go.ChangeShapes Go.WideShapes
variable {H : Type} {enc : TypeId × Value → H} {w : World} {base : Nat} {spare : Nat → Bool} {held : Bool}
theorem st3_cells {P : Program} {k : IntKind} {e ti : TypeId} {f0 f1 f2 : Field} (he : P.underlying e = some (.struct #[f0, f1, f2])) (hone : oneCellFields P #[f0, f1, f2] = true) (hC : P.cellsOf e = 3) (hi : P.underlying ti = some (.int k))
    (t0 : f0.type = ti) (t1 : f1.type = ti) (t2 : f2.type = ti) {fuel : Nat} {cs : List Value} {x : DataW H × List MemPlace} (h : DataW.trod enc P w base spare held fuel e cs = some x) :
    ∃ a b c : Int, cs = [.int k a, .int k b, .int k c] ∧ (Lit.int k a).wf = true ∧ (Lit.int k b).wf = true ∧ (Lit.int k c).wf = true := by
  obtain ⟨y0, y1, y2, n, _, hl, h0, h1, h2⟩ := trod_struct3 he h
  rw [hC] at hl
  match cs, hl with
  | [u, v, z], _ =>
    obtain ⟨o0, k0⟩ := hone_of hone 0 f0 rfl
    obtain ⟨o1, k1⟩ := hone_of hone 1 f1 rfl
    obtain ⟨o2, k2⟩ := hone_of hone 2 f2 rfl
    rw [o0, k0, t0] at h0; rw [o1, k1, t1] at h1; rw [o2, k2, t2] at h2
    obtain ⟨a, ea, _, wa⟩ := DataW.trod_int hi h0
    obtain ⟨b, eb, _, wb⟩ := DataW.trod_int hi h1
    obtain ⟨c, ec, _, wc⟩ := DataW.trod_int hi h2
    simp at ea eb ec
    subst ea eb ec
    exact ⟨a, b, c, rfl, wa, wb, wc⟩
theorem st3_row {P : Program} {k : IntKind} {t e ti : TypeId} {f0 f1 f2 : Field} (ht : P.underlying t = some (.slice e)) (he : P.underlying e = some (.struct #[f0, f1, f2])) (hone : oneCellFields P #[f0, f1, f2] = true) (hC : P.cellsOf e = 3) (hi : P.underlying ti = some (.int k))
    (t0 : f0.type = ti) (t1 : f1.type = ti) (t2 : f2.type = ti) {α : Type} (d : Kd α) (hd : d.sz = 3) (mk : Int → Int → Int → α) (hk : ∀ w a b c, d.K w (mk a b c) [.int k a, .int k b, .int k c])
    {fuel : Nat} {A : Option Addr} {len cap : Nat} {x : DataW H × List MemPlace} (h : DataW.trod enc P w base spare held fuel t [.slice A len cap] = some x) :
    ∃ l : List α, len = l.length ∧ Kd.C d w A l.length l ∧ l.length ≤ cap ∧ l.length ≤ maxLen ∧ ∀ y ∈ l, ∃ a b c, y = mk a b c ∧ (Lit.int k a).wf = true ∧ (Lit.int k b).wf = true ∧ (Lit.int k c).wf = true := by
  rcases open_slice ht h with ⟨h0, _⟩ | ⟨a, len', cap', m, n, D, Pl, hcs, hb, hl, hm, hmm, hx, hi'⟩
  · simp at h0
    obtain ⟨rfl, rfl, rfl⟩ := h0
    exact ⟨[], rfl, ⟨rfl, by simp, fun h => absurd h (by simp)⟩, by simp, by simp, by simp⟩
  · simp at hcs
    obtain ⟨rfl, rfl, rfl⟩ := hcs
    have hmlen : len ≤ m := by rw [hmm]; split <;> omega
    have hall : ∀ i, ∃ y : Int × Int × Int, i < len → (∀ j u, ([.int k y.1, .int k y.2.1, .int k y.2.2] : List Value)[j]? = some u → w.cell? (a.add (i * 3 + j)) = some u) ∧ (Lit.int k y.1).wf = true ∧ (Lit.int k y.2.1).wf = true ∧ (Lit.int k y.2.2).wf = true := by
      intro i
      by_cases hlt : i < len
      · obtain ⟨cs', hc, htr⟩ := hi' i (by omega)
        obtain ⟨p, q, r, rfl, wp, wq, wr⟩ := st3_cells he hone hC hi t0 t1 t2 htr
        rw [hC] at hc
        obtain ⟨_, _, hat⟩ := World.cells?_some hc
        refine ⟨(p, q, r), fun _ => ⟨fun j u hj => ?_, wp, wq, wr⟩⟩
        have hjl : j < 3 := by
          have := (List.getElem?_eq_some_iff.1 hj).1
          simpa using this
        have := hat j hjl
        rw [Go.Deep.add_add] at this
        rw [this]; exact hj
      · exact ⟨(0, 0, 0), fun h => absurd h hlt⟩
    have hY := fun i => Classical.choose_spec (hall i)
    generalize (fun i => Classical.choose (hall i)) = Y at hY
    refine ⟨(List.range len).map fun i => mk (Classical.choose (hall i)).1 (Classical.choose (hall i)).2.1 (Classical.choose (hall i)).2.2, by simp, ?_, by simp; omega, by simp; exact Nat.le_trans hl hm, ?_⟩
    · refine ⟨rfl, by simp; exact Nat.le_trans (Nat.le_trans hl hm) (by unfold maxLen; omega), fun _ => ⟨a, rfl, fun j p hj => ?_⟩⟩
      rw [List.getElem?_map] at hj
      have hjl : j < len := by
        by_cases g : j < len
        · exact g
        · rw [List.getElem?_eq_none (by simp; omega)] at hj; simp at hj
      rw [List.getElem?_eq_getElem (by simpa using hjl)] at hj
      simp at hj
      subst hj
      refine ⟨_, by rw [hd]; rfl, hk w _ _ _, fun i u hu => ?_⟩
      rw [hd]
      exact (Classical.choose_spec (hall j) hjl).1 i u hu
    · intro y hy
      obtain ⟨i, hi2, rfl⟩ := List.mem_map.1 hy
      have hil : i < len := by simpa using hi2
      have := (Classical.choose_spec (hall i) hil).2
      exact ⟨_, _, _, rfl, this⟩
end

theorem sq_bd {d s : Int} (h0 : 0 ≤ d) (h1 : d ≤ 67108864) (h2 : 0 ≤ s) (h3 : s ≤ 1000) : 0 ≤ d * d ∧ d * d ≤ 4503599627370496 ∧ 0 ≤ d * d * s ∧ d * d * s ≤ 4503599627370496000 := by
  have b1 := mul_bd0 (x := d) (y := d) 67108864 67108864 h0 h1 h0 h1
  have b2 := mul_bd0 (x := d * d) (y := s) 4503599627370496 1000 (by omega) (by omega) h2 h3
  omega
theorem tail_ {l : List SpE} (hg : goodL l) (o : Nat → Int) (ho : ∀ i, i < l.length → eL l i ≤ o i ∧ o i ≤ eW l i) (a b : Nat) (ha : a < l.length) (hb : b < l.length) (by' : Int) (h1 : 1 ≤ by') (h2 : by' ≤ 1000) (k : Nat) (i' k' : Int) (hi : Int.tmod i' (l.length : Int) = (a : Int)) (hk : Int.tmod k' (l.length : Int) = (b : Int)) (hlen : 2 ≤ l.length)
    (hbest : a ≠ b → eS l a ≠ 0 → eS l b ≠ 0 → o a + by' ≤ eW l a → eL l b ≤ o b - by' →
      (eW l a - o a) * (eW l a - o a) * eS l b + (eW l b - o b) * (eW l b - o b) * eS l a - 2 * by' * (eS l a + eS l b)
      ≤ (eW l a - (o a + by')) * (eW l a - (o a + by')) * eS l b + (eW l b - (o b - by')) * (eW l b - (o b - by')) * eS l a) :
    tocsinlaw13_ElasticBest.j1 (k + 1) l i' k' by' ((List.range l.length).map o) 0 false = some true := by
  have hl := hg.1
  have hga := good_N hg a ha
  have hgb := good_N hg b hb
  have hoa := ho a ha
  have hob := ho b hb
  have r1 := rd_map o l.length a ha
  have r2 := rd_map o l.length b hb
  have w1 : wrap64 (o a + by') = o a + by' := w64 (by omega) (by omega)
  have w2 : wrap64 (o b - by') = o b - by' := w64 (by omega) (by omega)
  have s1 : ((List.range l.length).map o).set ((a : Int)).toNat (o a + by') = (List.range l.length).map fun j => if j = a then o a + by' else o j :=
    set_map _ _ l.length a _ (fun j hj hne => if_neg hne) (if_pos rfl)
  simp only [tocsinlaw13_ElasticBest.j1]
  rw [if_neg (by simp), if_neg (by omega)]
  simp only [hi, hk, Option.bind_some, List.nil_append, r1, r2, w1, s1]
  rw [if_pos (by simp; omega), if_pos (by omega), if_pos (by simp; omega), if_pos (by omega), if_pos (by simp; omega)]
  by_cases hab : (a : Int) = (b : Int)
  · rw [if_pos hab]
  rw [if_neg hab]
  have hne : a ≠ b := fun e => hab (by rw [e])
  have r3 := rd_map (fun j => if j = a then o a + by' else o j) l.length b hb
  simp only [show ¬ b = a from fun e => hne e.symm, if_false] at r3
  have s2 : ((List.range l.length).map fun j => if j = a then o a + by' else o j).set ((b : Int)).toNat (o b - by') = (List.range l.length).map fun j => if j = b then o b - by' else if j = a then o a + by' else o j :=
    set_map _ _ l.length b _ (fun j hj hne => if_neg hne) (if_pos rfl)
  have r4 := rd_map (fun j => if j = b then o b - by' else if j = a then o a + by' else o j) l.length a ha
  have r5 := rd_map (fun j => if j = b then o b - by' else if j = a then o a + by' else o j) l.length b hb
  simp only [hne, if_false, if_true] at r4 r5
  simp only [r3, w2, s2, r4, r5]
  simp only [show (rd_T29 l (a : Int)).f0 = eW l a from rfl, show (rd_T29 l (a : Int)).f2 = eS l a from rfl, show (rd_T29 l (b : Int)).f0 = eW l b from rfl, show (rd_T29 l (b : Int)).f1 = eL l b from rfl, show (rd_T29 l (b : Int)).f2 = eS l b from rfl]
  rw [if_pos (by omega)]
  refine g_if fun sa => ?_
  rw [if_pos (by omega)]
  refine g_if fun sb => g_if fun wa => g_if fun lb => ?_
  rw [if_pos (by simp; omega), if_pos (by simp; omega)]
  have hB := hbest hne sa sb (by omega) (by omega)
  have v1 : wrap64 (eW l a - (o a + by')) = eW l a - (o a + by') := w64 (by omega) (by omega)
  have v2 : wrap64 (eW l b - (o b - by')) = eW l b - (o b - by') := w64 (by omega) (by omega)
  have v3 : wrap64 (eW l a - o a) = eW l a - o a := w64 (by omega) (by omega)
  have v4 : wrap64 (eW l b - o b) = eW l b - o b := w64 (by omega) (by omega)
  have q1 := sq_bd (d := eW l a - (o a + by')) (s := eS l b) (by omega) (by omega) (by omega) (by omega)
  have q2 := sq_bd (d := eW l b - (o b - by')) (s := eS l a) (by omega) (by omega) (by omega) (by omega)
  have q3 := sq_bd (d := eW l a - o a) (s := eS l b) (by omega) (by omega) (by omega) (by omega)
  have q4 := sq_bd (d := eW l b - o b) (s := eS l a) (by omega) (by omega) (by omega) (by omega)
  have q5 := mul_bd0 (x := 2 * by') (y := eS l a + eS l b) 2000 2000 (by omega) (by omega) (by omega) (by omega)
  have p1 : wrap64 (eS l a + eS l b) = eS l a + eS l b := w64 (by omega) (by omega)
  have p2 : wrap64 (2 * by') = 2 * by' := w64 (by omega) (by omega)
  congr 1; rw [decide_eq_true_iff]
  rw [v1, v2, v3, v4, p1, p2]
  clear v1 v2 v3 v4 p1 p2 r1 r2 r3 r4 r5 w1 w2 s1 s2
  generalize eW l a - (o a + by') = A' at *
  generalize eW l b - (o b - by') = B' at *
  generalize eW l a - o a = A at *
  generalize eW l b - o b = B at *
  rw [w64 (x := A' * A') (by omega) (by omega), w64 (x := B' * B') (by omega) (by omega), w64 (x := A * A) (by omega) (by omega), w64 (x := B * B) (by omega) (by omega)]
  generalize A' * A' * eS l b = z1 at *
  generalize B' * B' * eS l a = z2 at *
  generalize A * A * eS l b = z3 at *
  generalize B * B * eS l a = z4 at *
  generalize 2 * by' * (eS l a + eS l b) = z5 at *
  rw [w64 (x := z1) (by omega) (by omega), w64 (x := z2) (by omega) (by omega), w64 (x := z3) (by omega) (by omega), w64 (x := z4) (by omega) (by omega), w64 (x := z5) (by omega) (by omega)]
  rw [w64 (x := z1 + z2) (by omega) (by omega), w64 (x := z3 + z4) (by omega) (by omega), w64 (x := z3 + z4 - z5) (by omega) (by omega)]
  omega
theorem place (i : Int) (n : Nat) (h0 : 0 ≤ i) (hn : 0 < n) : ∃ a : Nat, a < n ∧ Int.tmod i (n : Int) = (a : Int) := by
  refine ⟨(Int.tmod i n).toNat, ?_, ?_⟩
  · have := Int.tmod_lt_of_pos i (show (0 : Int) < n by omega)
    have := Int.tmod_nonneg (n : Int) h0
    omega
  · have := Int.tmod_nonneg (n : Int) h0
    omega
theorem law (l : List SpE) (room i k by' : Int) : tocsinlaw13_ElasticBest.f 300 l room i k by' = some true := by
  unfold tocsinlaw13_ElasticBest.f
  rw [awake_is _ (by omega)]
  simp only [Option.bind_some, if_true, tocsinlaw13_ElasticBest.j0]
  refine g_if fun h1 => g_if fun h2 => g_if fun h3 => g_if fun h4 => g_if fun h5 => ?_
  by_cases h6 : by' > 1000
  · rw [decide_eq_true h6]; rfl
  rw [decide_eq_false h6]
  simp only [Bool.false_eq_true, if_false]
  obtain ⟨a, ha, hia⟩ := place i l.length (by omega) (by omega)
  obtain ⟨b, hb, hkb⟩ := place k l.length (by omega) (by omega)
  rcases Press_is 299 l room (by omega) with ⟨h, e⟩ | ⟨h, g2, e⟩ | ⟨h, g2, ⟨g3, e⟩ | ⟨g3, hE, g4, e⟩⟩
  · rw [e]; rfl
  · rw [e]; rfl
  · rw [e]
    simp only [Option.bind_some, if_true]
    rw [show ((((List.range l.length).map (eW l)).length : Int) != (l.length : Int)) = false by simp]
    exact tail_ h.1 _ (fun i hi => by have := good_N h.1 i hi; omega) a b ha hb by' (by omega) (by omega) 298 i k hia hkb (by omega) (fun _ _ _ x _ => by omega)
  · rw [e]
    simp only [Option.bind_some, if_true]
    rw [show ((((List.range l.length).map (outN l.length (eW l) (eL l) (eS l) hE room)).length : Int) != (l.length : Int)) = false by simp]
    exact tail_ h.1 _ (fun i hi => by have := out_range (good_N h.1) g2 g4.toFinN i hi; omega) a b ha hb by' (by omega) (by omega) 298 i k hia hkb (by omega) (fun _ sa sb _ lb => best (good_N h.1) g2 g4.toFinN a b ha hb by' (by omega) sa sb lb)
theorem own : ownKnob Try.prog.godebug = none := by kernel_rfl
theorem Try.laidOut : laidOutB Try.prog = true := by kernel_rfl
open Go.ChangeShapes Go.WideShapes Go.ChangeAt Go.RowKit
open Go.ChangeMaps (open_string shut_string)
set_option maxRecDepth 100000 in
theorem lifted (os : Os) (started : os.Started) (H : Type) (enc : TypeId × Value → H) :
    ReturnsInHanded {} Try.checked os 4 .any (Rows.elasticBestSpec.pre6 enc Try.prog Try.f4 Rows.elasticBestRow.domain false) (Rows.elasticBestSpec.post enc Try.prog Try.f4 false true false false) := by
  refine returnsInHanded_of_change_sized (C := Try.checked) own started (by kernel_rfl) Try.func4
    (ChangeSpec.witness6 (enc := enc) (C := Try.checked) false ⟨#[], #[.slice none 0 0, .int .i64 0, .int .i64 0, .int .i64 0, .int .i64 0], []⟩ 8 (by kernel_rfl) (by kernel_rfl) (by kernel_rfl) (by kernel_rfl)) ?_
  intro W base args ds gs before hval0 hW hcnd hsz0 _
  have hsz : (DataW.weightsEach Try.prog (Try.f4.params.toList ++ Rows.elasticBestSpec.plain.varTypes Try.prog) (ds ++ gs)).all (· ≤ reachBytes) = true := hsz0
  have hval : ∀ (j : Nat) t v, Try.f4.params[j]? = some t → args[j]? = some v → Value.okWide Try.prog W .any base t v := hval0
  have hW' := hW
  obtain ⟨p, q, hA0, hV, rfl, hfz, hnd⟩ := hW
  have hA : DataW.TrodAll enc Try.prog W 0 (fun _ => true) true Try.f4.params.toList args.toList ds p := hA0
  rw [Try.params4] at hA hval hsz
  obtain ⟨v0, vs0, d0, ds0, p0, q0, hargs, rfl, rfl, h0, r0⟩ := trodAll_cons hA
  obtain ⟨v1, vs1, d1, ds1, p1, q1, rfl, rfl, rfl, h1, r1⟩ := trodAll_cons r0
  obtain ⟨v2, vs2, d2, ds2, p2, q2, rfl, rfl, rfl, h2, r2⟩ := trodAll_cons r1
  obtain ⟨v3, vs3, d3, ds3, p3, q3, rfl, rfl, rfl, h3, r3⟩ := trodAll_cons r2
  obtain ⟨v4, vs4, d4, ds4, p4, q4, rfl, rfl, rfl, h4, r4⟩ := trodAll_cons r3
  obtain ⟨rfl, rfl, rfl⟩ := trodAll_nil r4
  obtain rfl : args = #[v0, v1, v2, v3, v4] := by cases args; simp_all
  obtain ⟨rfl, rfl⟩ := trodVars_none hV
  have k0 := h0
  have k1 := h1
  have k2 := h2
  have k3 := h3
  have k4 := h4
  have lt0 : ∀ x ∈ p0, x.block < W.heap.size := by obtain ⟨m, hm⟩ := k0; exact DataW.trod_lt m _ _ _ hm
  have lt1 : ∀ x ∈ p1, x.block < W.heap.size := by obtain ⟨m, hm⟩ := k1; exact DataW.trod_lt m _ _ _ hm
  have lt2 : ∀ x ∈ p2, x.block < W.heap.size := by obtain ⟨m, hm⟩ := k2; exact DataW.trod_lt m _ _ _ hm
  have lt3 : ∀ x ∈ p3, x.block < W.heap.size := by obtain ⟨m, hm⟩ := k3; exact DataW.trod_lt m _ _ _ hm
  have lt4 : ∀ x ∈ p4, x.block < W.heap.size := by obtain ⟨m, hm⟩ := k4; exact DataW.trod_lt m _ _ _ hm
  obtain ⟨a0, len0, cap0, rfl⟩ := okWide_slice Try.underlying22 (hval 0 22 v0 rfl rfl)
  obtain ⟨fuel0, hf0⟩ := h0
  obtain ⟨l0, rfl, hr0, hc0, hm0, hw0⟩ := st3_row Try.underlying22 Try.underlying29 (by kernel_rfl) (by kernel_rfl) Try.underlying2 rfl rfl rfl k29 rfl (fun a b c => (⟨a, b, c⟩ : S29)) (fun w a b c => k29_mk w ⟨a, b, c⟩) (by simpa [Value.cells] using hf0)
  obtain ⟨a1, rfl, rfl, rfl, w1⟩ := open_int Try.underlying2 (hval 1 2 v1 rfl rfl) h1
  obtain ⟨a2, rfl, rfl, rfl, w2⟩ := open_int Try.underlying3 (hval 2 3 v2 rfl rfl) h2
  obtain ⟨a3, rfl, rfl, rfl, w3⟩ := open_int Try.underlying3 (hval 3 3 v3 rfl rfl) h3
  obtain ⟨a4, rfl, rfl, rfl, w4⟩ := open_int Try.underlying2 (hval 4 2 v4 rfl rfl) h4
  clear hA0 hval0 hsz0 hsz
  refine (tocsinlaw13_ElasticBest.calls 300 a0 cap0 l0 a1 a2 a3 a4 true W hr0 hc0 (law l0 a1 a2 a3 a4)).mono fun e W' ⟨he, bel⟩ => ?_
  subst he
  exact ⟨_, rfl, _, _, _, _, _, [], hW', trodAll_mk1 (shut_bool Try.underlying4 _), (trodAll_cons_mk (Below.trod Try.laidOut (by kernel_rfl) (of_decide_eq_true (by kernel_rfl)) k0 bel lt0) (trodAll_cons_mk (Below.trod Try.laidOut (by kernel_rfl) (of_decide_eq_true (by kernel_rfl)) k1 bel lt1) (trodAll_cons_mk (Below.trod Try.laidOut (by kernel_rfl) (of_decide_eq_true (by kernel_rfl)) k2 bel lt2) (trodAll_cons_mk (Below.trod Try.laidOut (by kernel_rfl) (of_decide_eq_true (by kernel_rfl)) k3 bel lt3) (trodAll_cons_mk (Below.trod Try.laidOut (by kernel_rfl) (of_decide_eq_true (by kernel_rfl)) k4 bel lt4) trodAll_mk0))))), rfl, bel.frame _, fun h => by cases h⟩
theorem over : Rows.elasticBestRow.holds Try.pinned (OpenSpec.ofChange Rows.elasticBestSpec) :=
  OpenClaim.holds_of_wide 4 Try.f4 rfl rfl rfl rfl rfl rfl rfl ⟨rfl, rfl, rfl, rfl, rfl⟩ rfl rfl rfl rfl rfl (by kernel_rfl) Try.func4 (by kernel_rfl)
    (of_decide_eq_true (by kernel_rfl)) (by unfold Func.isWrapper; first | (rw [if_pos (by decide +kernel)]; kernel_rfl) | (rw [if_neg (by decide +kernel)]; exact ⟨rfl, rfl⟩))
    (fun os started H enc _ => lifted os started H enc)
end Go.Proofs.Ytdpeedkmgegmnaa.Pure
namespace Go.Proofs.Ytdpeedkmgegmnaa
/-- The row, under a short name, for the claim. -/
theorem elasticBest_holds : Rows.ElasticBestSaid := Pure.over
end Go.Proofs.Ytdpeedkmgegmnaa
#print axioms Go.Proofs.Ytdpeedkmgegmnaa.elasticBest_holds
namespace Go.Proofs.Ytdpeedkmgegmnaa.Pure

end Go.Proofs.Ytdpeedkmgegmnaa.Pure
