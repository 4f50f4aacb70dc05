/- What is written of a trace is read again, and one changed byte is seen: for every a, b, at, by. -/
import Derived.Test.YtpgfecaomdioeaaPCtx4
import Derived.Test.YtpgfecaomdioeaaRows
import Derived.WalkKit
import Derived.ProofKit
import Derived.OpenShut
import Derived.ShutString
import Derived.ChangeOld
import Derived.Below
import Derived.SizedLaws
import Derived.Carry
import Derived.Lib.SmallJoins
import Derived.Test.YtpgfecaomdioeaaWSized
namespace Go.Proofs.Ytpgfecaomdioeaa.Pure
open Go.RowKit Go.Proofs.Ytpgfecaomdioeaa.PCt Go.Proofs.YtpgfecaomdioeaaW.PrintWords Go.Proofs.YtpgfecaomdioeaaW.PrintLast Go.Proofs.YtpgfecaomdioeaaW.PrintMore 
set_option linter.unusedVariables false
set_option linter.unusedSimpArgs false

def okV (t : List Int) : Prop := ∀ x ∈ t, -1 ≤ x ∧ x < 200
def fin (k : Nat) (x0 x1 : List Int) (x2 x3 : Int) : Option Bool := (codec_PutTrace.f k x0).bind fun t143 => ((codec_PutTrace.f k x1).bind fun t146 => ((tocsinlaw26_ints.f k x0 x1).bind fun t149 => (if (((strOfNums t143).toList == (strOfNums t146).toList) != t149) = true then (tocsinlaw26_CodecTraces.j3 k x0 x2 x3 t143 true) else (tocsinlaw26_CodecTraces.j3 k x0 x2 x3 t143 ((t143.length : Int) == 0)))))
theorem okV_all {t : List Int} (h : ∀ i, i < t.length → -1 ≤ rd t (i : Int) ∧ rd t (i : Int) < 200) : okV t := by
  intro x hx
  obtain ⟨i, hi, rfl⟩ := List.getElem_of_mem hx
  have := h i hi
  unfold rd at this
  rw [show ((i : Int).toNat) = i by omega, List.getD_eq_getElem?_getD, List.getElem?_eq_getElem hi] at this
  exact this
theorem may_of {t : List Int} (h : okV t) (hl : t.length ≤ 100) : mayT t = true := by
  unfold mayT
  rw [Bool.and_eq_true, List.all_eq_true, decide_eq_true_iff]
  exact ⟨fun x hx => decide_eq_true (h x hx), by omega⟩
theorem walk1 (x0 x1 : List Int) (x2 x3 : Int) (hl : x1.length ≤ 100) (k0 : Nat) : ∀ d p k, p + d = x1.length → k = k0 + d + 1 → (∀ i, i < p → -1 ≤ rd x1 (i : Int) ∧ rd x1 (i : Int) < 200) → (okV x1 → fin k0 x0 x1 x2 x3 = some true) → tocsinlaw26_CodecTraces.l1 k x0 x1 x2 x3 p = some true := by
  intro d
  induction d with
  | zero =>
    intro p k hp hk hi hf
    subst hk
    unfold tocsinlaw26_CodecTraces.l1
    rw [if_neg (by omega)]
    exact hf (okV_all fun i h => hi i (by omega))
  | succ d ih =>
    intro p k hp hk hi hf
    obtain ⟨k, rfl⟩ : ∃ k', k = k' + 1 := ⟨k - 1, by omega⟩
    unfold tocsinlaw26_CodecTraces.l1
    rw [if_pos (by omega), if_pos (by omega)]
    by_cases c1 : rd x1 (p : Int) < -1
    · rw [if_pos c1]
    rw [if_neg c1]
    by_cases c2 : rd x1 (p : Int) > 199
    · rw [if_pos c2]
    rw [if_neg c2, w64 _ (by omega) (by omega), show (p : Int) + 1 = ((p + 1 : Nat) : Int) by omega]
    refine ih (p + 1) k (by omega) (by omega) (fun i h => ?_) hf
    by_cases e : i = p
    · subst e; omega
    · exact hi i (by omega)
theorem walk0 (x0 x1 : List Int) (x2 x3 : Int) (hl : x0.length ≤ 100) (hm : x1.length ≤ 100) (k0 : Nat) : ∀ d p k, p + d = x0.length → k = k0 + x1.length + 1 + d + 1 → (∀ i, i < p → -1 ≤ rd x0 (i : Int) ∧ rd x0 (i : Int) < 200) → (okV x0 → okV x1 → fin k0 x0 x1 x2 x3 = some true) → tocsinlaw26_CodecTraces.l0 k x0 x1 x2 x3 p = some true := by
  intro d
  induction d with
  | zero =>
    intro p k hp hk hi hf
    subst hk
    unfold tocsinlaw26_CodecTraces.l0
    rw [if_neg (by omega)]
    have := walk1 x0 x1 x2 x3 hm k0 x1.length 0 (k0 + x1.length + 1) (by omega) rfl (fun i h => absurd h (by omega)) (hf (okV_all fun i h => hi i (by omega)))
    exact this
  | succ d ih =>
    intro p k hp hk hi hf
    obtain ⟨k, rfl⟩ : ∃ k', k = k' + 1 := ⟨k - 1, by omega⟩
    unfold tocsinlaw26_CodecTraces.l0
    rw [if_pos (by omega), if_pos (by omega)]
    by_cases c1 : rd x0 (p : Int) < -1
    · rw [if_pos c1]
    rw [if_neg c1]
    by_cases c2 : rd x0 (p : Int) > 199
    · rw [if_pos c2]
    rw [if_neg c2, w64 _ (by omega) (by omega), show (p : Int) + 1 = ((p + 1 : Nat) : Int) by omega]
    refine ih (p + 1) k (by omega) (by omega) (fun i h => ?_) hf
    by_cases e : i = p
    · subst e; omega
    · exact hi i (by omega)
theorem xor_tab : ((List.range 256).all fun m => (List.range 256).all fun n => n == 0 || (!(Go.bits .xor .u8 (m : Int) (n : Int) == (m : Int)) && decide (0 ≤ Go.bits .xor .u8 (m : Int) (n : Int)) && decide (Go.bits .xor .u8 (m : Int) (n : Int) < 256))) = true := by kernel_rfl
theorem xor_is (x y : Int) (hx : 0 ≤ x ∧ x < 256) (hy : 0 ≤ y ∧ y < 256) (hn : y ≠ 0) : Go.bits .xor .u8 x y ≠ x ∧ 0 ≤ Go.bits .xor .u8 x y ∧ Go.bits .xor .u8 x y < 256 := by
  have h := List.all_eq_true.1 (List.all_eq_true.1 xor_tab x.toNat (List.mem_range.2 (by omega))) y.toNat (List.mem_range.2 (by omega))
  simp only [show ((x.toNat : Nat) : Int) = x by omega, show ((y.toNat : Nat) : Int) = y by omega, Bool.or_eq_true, Bool.and_eq_true, Bool.not_eq_true', decide_eq_true_iff, beq_iff_eq, beq_eq_false_iff_ne] at h
  rcases h with h | h
  · omega
  · exact ⟨h.1.1, h.1.2, h.2⟩
theorem set_B {l : List Int} (h : isB l) (i : Nat) (v : Int) (hv : 0 ≤ v ∧ v < 256) : isB (l.set i v) := by
  intro x hx
  rcases List.mem_or_eq_of_mem_set hx with hx | rfl
  · exact h x hx
  · exact hv
theorem fin_ok (k : Nat) (hk : 2000000 ≤ k) (x0 x1 : List Int) (x2 x3 : Int) (h0 : okV x0) (h1 : okV x1) (l0 : x0.length ≤ 100) (l1 : x1.length ≤ 100) (h2 : 0 ≤ x2) (h3 : 0 ≤ x3 ∧ x3 < 256) (hn : x3 ≠ 0) : fin k x0 x1 x2 x3 = some true := by
  have m0 := may_of h0 l0
  have m1 := may_of h1 l1
  have hlen : 4 ≤ (putT x0).length := by unfold putT; rw [if_pos m0, summed_len]; omega
  have hlen2 := putT_len x0
  have hB := putT_B x0
  unfold fin
  rw [PutTrace_is _ (by omega) _ (by omega), Option.bind_some, PutTrace_is _ (by omega) _ (by omega), Option.bind_some, ints_is _ _ (by omega) _ (by omega), Option.bind_some, strOf_inj hB (putT_B x1)]
  have e : decide (putT x0 = putT x1) = decide (x0 = x1) := by
    rw [decide_eq_decide]
    exact ⟨putT_inj m0 m1, fun h => by rw [h]⟩
  rw [e, if_neg (by simp), show (((putT x0).length : Int) == 0) = false from beq_eq_false_iff_ne.2 (by omega)]
  generalize hp : putT x0 = p at hlen hlen2 hB ⊢
  obtain ⟨k, rfl⟩ : ∃ k', k = k' + 1 := ⟨k - 1, by omega⟩
  simp only [tocsinlaw26_CodecTraces.j3]
  rw [if_neg (by decide), Option.bind_some, if_pos (by simp only [List.length_nil]; omega), Option.bind_some, List.nil_append, if_neg (by omega), if_pos (Int.tmod_nonneg _ h2), if_pos (Int.tmod_lt_of_pos _ (by omega))]
  have i0 := Int.tmod_nonneg (p.length : Int) h2
  have i1 := Int.tmod_lt_of_pos x2 (show (0 : Int) < (p.length : Int) by omega)
  generalize Int.tmod x2 (p.length : Int) = j at i0 i1 ⊢
  have hj : rd p j = p[j.toNat]'(by omega) := by
    unfold rd
    rw [List.getD_eq_getElem?_getD, List.getElem?_eq_getElem (by omega)]
    rfl
  have hx := xor_is (rd p j) x3 (by rw [hj]; exact hB _ (List.getElem_mem _)) h3 hn
  generalize Go.bits .xor .u8 (rd p j) x3 = v at hx ⊢
  have hqB := set_B hB j.toNat v hx.2
  have hq : p.set j.toNat v ≠ p := by
    intro h
    have := congrArg (fun l => l[j.toNat]?) h
    simp only [List.getElem?_set] at this
    rw [if_pos trivial, if_pos (by omega), List.getElem?_eq_getElem (by omega)] at this
    exact hx.1 (by rw [hj]; exact Option.some.inj this)
  have hql : (p.set j.toNat v).length ≤ 1000000 := by rw [List.length_set]; omega
  generalize p.set j.toNat v = q at hqB hq hql ⊢
  unfold codec_GetTrace.f
  rw [if_pos ⟨hql, List.all_eq_true.2 fun x hx => decide_eq_true (hqB x hx)⟩, Option.bind_some]
  unfold readT
  cases hg : getT putT q (wbT q) with
  | none => simp
  | some t =>
    have ht := getT_put hg
    have htl : t.length ≤ 1000000 := by
      by_cases hm : mayT t = true
      · have := (mayT_all hm).2; omega
      · exfalso
        unfold putT at ht
        rw [if_neg hm] at ht
        subst ht
        have : (none : Option (List Int)) = some t := by
          rw [← hg]
          rfl
        cases this
    simp only [if_true]
    rw [ints_is _ _ htl _ (by omega), Option.bind_some, decide_eq_false (fun h => hq (by rw [← ht, h, hp]))]
    rfl
theorem law (x0 x1 : List Int) (x2 x3 : Int) (w3 : (Lit.int .u8 x3).wf = true) : tocsinlaw26_CodecTraces.f (2000000 + x1.length + 1 + x0.length + 1 + 1) x0 x1 x2 x3 = some true := by
  have h3 : 0 ≤ x3 ∧ x3 < 256 := by
    have h : (0 : Int) ≤ x3 ∧ x3 ≤ 255 := by simpa [Lit.wf, IntKind.min, IntKind.max, IntKind.signed, IntKind.bits] using w3
    omega
  unfold tocsinlaw26_CodecTraces.f tocsinlaw26_awake.f
  rw [Option.bind_some, if_pos rfl]
  have yes : ∀ k, tocsinlaw26_CodecTraces.j0 (k + 1) x0 x1 x2 x3 true = some true := fun k => by simp only [tocsinlaw26_CodecTraces.j0]; rw [if_pos trivial]
  by_cases c0 : (x0.length : Int) > 100
  · rw [if_pos c0, yes]
  rw [if_neg c0]
  by_cases c1 : (x1.length : Int) > 100
  · rw [if_pos c1, yes]
  rw [if_neg c1]
  by_cases c2 : x2 < 0
  · rw [if_pos c2, yes]
  rw [if_neg c2]
  by_cases c3 : x3 = 0
  · rw [show (x3 == 0) = true from beq_iff_eq.2 c3, yes]
  rw [show (x3 == 0) = false from beq_eq_false_iff_ne.2 c3]
  simp only [tocsinlaw26_CodecTraces.j0]
  rw [if_neg (by decide)]
  exact walk0 x0 x1 x2 x3 (by omega) (by omega) 2000000 x0.length 0 _ (by omega) rfl (fun i h => absurd h (by omega)) fun h0 h1 => fin_ok 2000000 (Nat.le_refl _) x0 x1 x2 x3 h0 h1 (by omega) (by omega) (by omega) h3 c3
def IsRow (k : IntKind) (w : World) (a : Option Addr) (len cap : Nat) (zs : List Int) : Prop :=
  (a = none ∧ len = 0 ∧ cap = 0 ∧ zs = []) ∨
  ∃ x, a = some x ∧ len ≤ cap ∧ cap ≤ maxLen ∧ zs.length = cap ∧ (∀ i, i < zs.length → w.cell? (x.add i) = some (.int k (zs.getD i 0))) ∧ ∀ n ∈ zs, (Lit.int k n).wf = true
theorem own : ownKnob Try.prog.godebug = none := by kernel_rfl
theorem Try.laidOut : laidOutB Try.prog = true := by kernel_rfl
open Go.ChangeShapes Go.WideShapes Go.ChangeAt Go.RowKit
open Go.ChangeMaps (open_string shut_string)
set_option maxRecDepth 100000 in
theorem lifted (os : Os) (started : os.Started) (H : Type) (enc : TypeId × Value → H) :
    ReturnsInHanded {} Try.checked os 3 .any (Rows.codecTracesSpec.pre6 enc Try.prog Try.f3 Rows.codecTracesRow.domain false) (Rows.codecTracesSpec.post enc Try.prog Try.f3 false true false false) := by
  refine returnsInHanded_of_change_sized (C := Try.checked) own started (by kernel_rfl) Try.func3
    (ChangeSpec.witness6 (enc := enc) (C := Try.checked) false ⟨#[], #[.slice none 0 0, .slice none 0 0, .int .i64 0, .int .u8 0], []⟩ 8 (by kernel_rfl) (by kernel_rfl) (by kernel_rfl) (by kernel_rfl)) ?_
  intro W base args ds gs before hval0 hW hcnd hsz0 _
  have hsz : (DataW.weightsEach Try.prog (Try.f3.params.toList ++ Rows.codecTracesSpec.plain.varTypes Try.prog) (ds ++ gs)).all (· ≤ reachBytes) = true := hsz0
  have hval : ∀ (j : Nat) t v, Try.f3.params[j]? = some t → args[j]? = some v → Value.okWide Try.prog W .any base t v := hval0
  have hW' := hW
  obtain ⟨p, q, hA0, hV, rfl, hfz, hnd⟩ := hW
  have hA : DataW.TrodAll enc Try.prog W 0 (fun _ => true) true Try.f3.params.toList args.toList ds p := hA0
  rw [Try.params3] at hA hval hsz
  obtain ⟨v0, vs0, d0, ds0, p0, q0, hargs, rfl, rfl, h0, r0⟩ := trodAll_cons hA
  obtain ⟨v1, vs1, d1, ds1, p1, q1, rfl, rfl, rfl, h1, r1⟩ := trodAll_cons r0
  obtain ⟨v2, vs2, d2, ds2, p2, q2, rfl, rfl, rfl, h2, r2⟩ := trodAll_cons r1
  obtain ⟨v3, vs3, d3, ds3, p3, q3, rfl, rfl, rfl, h3, r3⟩ := trodAll_cons r2
  obtain ⟨rfl, rfl, rfl⟩ := trodAll_nil r3
  obtain rfl : args = #[v0, v1, v2, v3] := by cases args; simp_all
  obtain ⟨rfl, rfl⟩ := trodVars_none hV
  have k0 := h0
  have k1 := h1
  have k2 := h2
  have k3 := h3
  have lt0 : ∀ x ∈ p0, x.block < W.heap.size := by obtain ⟨m, hm⟩ := k0; exact DataW.trod_lt m _ _ _ hm
  have lt1 : ∀ x ∈ p1, x.block < W.heap.size := by obtain ⟨m, hm⟩ := k1; exact DataW.trod_lt m _ _ _ hm
  have lt2 : ∀ x ∈ p2, x.block < W.heap.size := by obtain ⟨m, hm⟩ := k2; exact DataW.trod_lt m _ _ _ hm
  have lt3 : ∀ x ∈ p3, x.block < W.heap.size := by obtain ⟨m, hm⟩ := k3; exact DataW.trod_lt m _ _ _ hm
  obtain ⟨a0, len0, cap0, rfl⟩ := okWide_slice Try.underlying22 (hval 0 22 v0 rfl rfl)
  obtain ⟨z0, w0⟩ : ∃ zs, IsRow .i64 W a0 len0 cap0 zs := by
    obtain ⟨fuel, hf⟩ := h0
    rcases open_ints Try.underlying22 Try.underlying3 (by kernel_rfl) hf with ⟨hcs, _⟩ | ⟨x, l, c, zs, hcs, _, hl, hm, hz, _, hcell, hwz⟩
    · simp [Value.cells] at hcs
      obtain ⟨rfl, rfl, rfl⟩ := hcs
      exact ⟨[], .inl ⟨rfl, rfl, rfl, rfl⟩⟩
    · simp [Value.cells] at hcs
      obtain ⟨rfl, rfl, rfl⟩ := hcs
      exact ⟨zs, .inr ⟨_, rfl, hl, hm, by simpa using hz, hcell, hwz⟩⟩
  have y0 : len0 * 8 ≤ 140737488351232 := sized_ints hsz (j := 0) (t := 22) rfl rfl Try.underlying22 Try.underlying3 (by kernel_rfl) (by kernel_rfl) h0
  obtain ⟨l0, rfl, hr0, hm0, hw0, hc0⟩ := ReadsInt.ofRowC w0
  obtain ⟨a1, len1, cap1, rfl⟩ := okWide_slice Try.underlying22 (hval 1 22 v1 rfl rfl)
  obtain ⟨z1, w1⟩ : ∃ zs, IsRow .i64 W a1 len1 cap1 zs := by
    obtain ⟨fuel, hf⟩ := h1
    rcases open_ints Try.underlying22 Try.underlying3 (by kernel_rfl) hf with ⟨hcs, _⟩ | ⟨x, l, c, zs, hcs, _, hl, hm, hz, _, hcell, hwz⟩
    · simp [Value.cells] at hcs
      obtain ⟨rfl, rfl, rfl⟩ := hcs
      exact ⟨[], .inl ⟨rfl, rfl, rfl, rfl⟩⟩
    · simp [Value.cells] at hcs
      obtain ⟨rfl, rfl, rfl⟩ := hcs
      exact ⟨zs, .inr ⟨_, rfl, hl, hm, by simpa using hz, hcell, hwz⟩⟩
  have y1 : len1 * 8 ≤ 140737488351232 := sized_ints hsz (j := 1) (t := 22) rfl rfl Try.underlying22 Try.underlying3 (by kernel_rfl) (by kernel_rfl) h1
  obtain ⟨l1, rfl, hr1, hm1, hw1, hc1⟩ := ReadsInt.ofRowC w1
  obtain ⟨a2, rfl, rfl, rfl, w2⟩ := open_int Try.underlying3 (hval 2 3 v2 rfl rfl) h2
  obtain ⟨a3, rfl, rfl, rfl, w3⟩ := open_int Try.underlying5 (hval 3 5 v3 rfl rfl) h3
  clear hA0 hval0 hsz0 hsz
  refine (tocsinlaw26_CodecTraces.calls (2000000 + l1.length + 1 + l0.length + 1 + 1) a0 cap0 l0 a1 cap1 l1 a2 a3 true W (Kd.C_of_reads (d := (0 : Int)) (h1 := fun _ => rfl) hr0) hc0 (Kd.C_of_reads (d := (0 : Int)) (h1 := fun _ => rfl) hr1) hc1 (law l0 l1 a2 a3 w3)).mono fun e W' ⟨he, bel⟩ => ?_
  subst he
  exact ⟨_, rfl, _, _, _, _, _, [], hW', trodAll_mk1 (shut_bool Try.underlying4 _), (trodAll_cons_mk (Below.trod Try.laidOut (by kernel_rfl) (of_decide_eq_true (by kernel_rfl)) k0 bel lt0) (trodAll_cons_mk (Below.trod Try.laidOut (by kernel_rfl) (of_decide_eq_true (by kernel_rfl)) k1 bel lt1) (trodAll_cons_mk (Below.trod Try.laidOut (by kernel_rfl) (of_decide_eq_true (by kernel_rfl)) k2 bel lt2) (trodAll_cons_mk (Below.trod Try.laidOut (by kernel_rfl) (of_decide_eq_true (by kernel_rfl)) k3 bel lt3) trodAll_mk0)))), rfl, bel.frame _, fun h => by cases h⟩
theorem over : Rows.codecTracesRow.holds Try.pinned (OpenSpec.ofChange Rows.codecTracesSpec) :=
  OpenClaim.holds_of_wide 3 Try.f3 rfl rfl rfl rfl rfl rfl rfl ⟨rfl, rfl, rfl, rfl, rfl⟩ rfl rfl rfl rfl rfl (by kernel_rfl) Try.func3 (by kernel_rfl)
    (of_decide_eq_true (by kernel_rfl)) (by unfold Func.isWrapper; first | (rw [if_pos (by decide +kernel)]; kernel_rfl) | (rw [if_neg (by decide +kernel)]; exact ⟨rfl, rfl⟩))
    (fun os started H enc _ => lifted os started H enc)
end Go.Proofs.Ytpgfecaomdioeaa.Pure
namespace Go.Proofs.Ytpgfecaomdioeaa
/-- The row, under a short name, for the claim. -/
theorem codecTraces_holds : Rows.CodecTracesSaid := Pure.over
end Go.Proofs.Ytpgfecaomdioeaa
#print axioms Go.Proofs.Ytpgfecaomdioeaa.codecTraces_holds
namespace Go.Proofs.Ytpgfecaomdioeaa.Pure

end Go.Proofs.Ytpgfecaomdioeaa.Pure
