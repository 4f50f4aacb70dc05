/- What is behind a face: for every rule, every tasks and either colour, as the document says. -/
import Derived.Test.YtbfjnlnnjhfamaaPPox6
import Derived.Test.YtbfjnlnnjhfamaaPolDem
import Derived.Deep.Strs
import Derived.Deep.Slices
import Derived.Deep.Fields
import Derived.ChangeArms
import Derived.DataReads
import Derived.Test.YtbfjnlnnjhfamaaRows
import Derived.WalkKit
import Derived.ProofKit
import Derived.OpenShut
import Derived.ShutString
import Derived.ChangeOld
import Derived.Below
import Derived.SizedLaws
import Derived.Carry
import Derived.Lib.SmallJoins
import Derived.Test.YtbfjnlnnjhfamaaWSized
namespace Go.Proofs.Ytbfjnlnnjhfamaa.Pure
open Go.RowKit Go.Proofs.Ytbfjnlnnjhfamaa.PPo Go.Proofs.YtbfjnlnnjhfamaaW.PrintWords Go.Proofs.YtbfjnlnnjhfamaaW.PrintLast Go.Proofs.YtbfjnlnnjhfamaaW.PrintMore 
set_option linter.unusedVariables false
set_option linter.unusedSimpArgs false

/-! A slice of structs that came in: the list that it reads as. -/
section
open Go.Deep Go.ChangeShapes Go.WideShapes
variable {H : Type} {enc : TypeId × Value → H} {w : World} {base : Nat} {spare : Nat → Bool} {held : Bool}
theorem kd_row {P : Program} {t e : TypeId} (ht : P.underlying t = some (.slice e)) {sz : Nat} (hC : P.cellsOf e = sz) {α : Type} (d : Kd α) (hd : d.sz = sz) (z : α) (good : α → Prop)
    (hel : ∀ fuel cs x, DataW.trod enc P w base spare held fuel e cs = some x → ∃ y : α, d.K w y cs ∧ cs.length = sz ∧ good y)
    {fuel : Nat} {A : Option Addr} {len cap : Nat} {x : DataW H × List MemPlace} (h : DataW.trod enc P w base spare held fuel t [.slice A len cap] = some x) :
    ∃ l : List α, len = l.length ∧ Kd.C d w A l.length l ∧ l.length ≤ cap ∧ l.length ≤ maxLen ∧ ∀ y ∈ l, good y := by
  rcases open_slice ht h with ⟨h0, _⟩ | ⟨a, len', cap', m, n, D, Pl, hcs, hb, hl, hm, hmm, hx, hi'⟩
  · simp at h0
    obtain ⟨rfl, rfl, rfl⟩ := h0
    exact ⟨[], rfl, ⟨rfl, by simp, fun h => absurd h (by simp)⟩, by simp, by simp, by simp⟩
  · simp at hcs
    obtain ⟨rfl, rfl, rfl⟩ := hcs
    have hmlen : len ≤ m := by rw [hmm]; split <;> omega
    have hall : ∀ i, ∃ y : α, i < len → (∃ cs : List Value, cs.length = sz ∧ d.K w y cs ∧ ∀ j u, cs[j]? = some u → w.cell? (a.add (i * sz + j)) = some u) ∧ good y := by
      intro i
      by_cases hlt : i < len
      · obtain ⟨cs', hc, htr⟩ := hi' i (by omega)
        obtain ⟨y, hK, hl', hg⟩ := hel _ _ _ htr
        rw [hC] at hc
        obtain ⟨_, _, hat⟩ := World.cells?_some hc
        refine ⟨y, fun _ => ⟨⟨cs', hl', hK, fun j u hj => ?_⟩, hg⟩⟩
        have hjl : j < sz := by
          have := (List.getElem?_eq_some_iff.1 hj).1
          omega
        have := hat j hjl
        rw [Go.Deep.add_add] at this
        rw [this]; exact hj
      · exact ⟨z, fun h => absurd h hlt⟩
    refine ⟨(List.range len).map fun i => Classical.choose (hall i), by simp, ?_, by simp; omega, by simp; exact Nat.le_trans hl hm, ?_⟩
    · refine ⟨rfl, by simp; exact Nat.le_trans (Nat.le_trans hl hm) (by unfold maxLen; omega), fun _ => ⟨a, rfl, fun j p hj => ?_⟩⟩
      rw [List.getElem?_map] at hj
      have hjl : j < len := by
        by_cases g : j < len
        · exact g
        · rw [List.getElem?_eq_none (by simp; omega)] at hj; simp at hj
      rw [List.getElem?_eq_getElem (by simpa using hjl)] at hj
      simp at hj
      subst hj
      obtain ⟨cs, hl', hK, hcs⟩ := (Classical.choose_spec (hall j) hjl).1
      refine ⟨cs, by rw [hd]; exact hl', hK, fun i u hu => ?_⟩
      rw [hd]
      exact hcs i u hu
    · intro y hy
      obtain ⟨i, hi2, rfl⟩ := List.mem_map.1 hy
      exact (Classical.choose_spec (hall i) (by simpa using hi2)).2
theorem trod_str {P : Program} {t : TypeId} (ht : P.underlying t = some .string) {fuel : Nat} {cs : List Value} {x : DataW H × List MemPlace} (h : DataW.trod enc P w base spare held fuel t cs = some x) : ∃ s : ByteArray, cs = [.string s] := by
  cases fuel with
  | zero => simp [DataW.trod] at h
  | succ n =>
    unfold DataW.trod at h
    rw [ht] at h
    split at h <;> simp_all
theorem trod_boo {P : Program} {t : TypeId} (ht : P.underlying t = some .bool) {fuel : Nat} {cs : List Value} {x : DataW H × List MemPlace} (h : DataW.trod enc P w base spare held fuel t cs = some x) : ∃ b : Bool, cs = [.bool b] := by
  cases fuel with
  | zero => simp [DataW.trod] at h
  | succ n =>
    unfold DataW.trod at h
    rw [ht] at h
    split at h <;> simp_all
theorem trod_field {P : Program} {fs : Array Field} {t : TypeId} (ht : P.underlying t = some (.struct fs)) (hone : oneCellFields P fs = true) {fuel : Nat} {cs : List Value} {x : DataW H × List MemPlace} (h : DataW.trod enc P w base spare held fuel t cs = some x)
    (i : Nat) (f : Field) (hf : fs[i]? = some f) : ∃ n y, DataW.trod enc P w base spare held n f.type ((cs.drop i).take 1) = some y := by
  obtain ⟨xs, n, _, _, hl, hlen, hf'⟩ := DataW.trod_struct ht h
  obtain ⟨o0, k0⟩ := hone_of hone i f hf
  have h1 := hf' i f hf
  rw [o0, k0] at h1
  have hi : i < xs.length := by
    rw [hlen]
    exact (Array.getElem?_eq_some_iff.1 hf).1
  rw [List.getElem?_eq_getElem hi] at h1
  exact ⟨n, _, h1⟩
theorem trod_size {P : Program} {fs : Array Field} {t : TypeId} (ht : P.underlying t = some (.struct fs)) {fuel : Nat} {cs : List Value} {x : DataW H × List MemPlace} (h : DataW.trod enc P w base spare held fuel t cs = some x) : cs.length = P.cellsOf t := by
  obtain ⟨xs, n, _, _, hl, _⟩ := DataW.trod_struct ht h
  exact hl
end

def goodS (l : List S28) : Bool := (holdsS (l.map qT)).1 && ((holdsS (l.map qT)).2 == 0)
def toRT (t : S28) : S29 := ⟨t.f0, t.f1, t.f2⟩
theorem map_toRT (l : List S28) : (l.map toRT).map qR = l.map qT := by rw [List.map_map]; rfl
theorem drop_T (l : List S28) (p : Nat) (h : p < l.length) : l.take (p + 1) = l.take p ++ [rd_T28 l (p : Int)] := by
  rw [List.take_succ_eq_append_getElem h]
  unfold rd_T28
  rw [show ((p : Int).toNat) = p by omega, List.getD_eq_getElem?_getD, List.getElem?_eq_getElem h]
  rfl
theorem says_l0 (l : List S28) (hn : l.length ≤ 6) : ∀ d i k, i + d = l.length → 9223372036854775900 + d < k →
    tocsinlaw23_PolicySays.l0 k l (goodS l) ((l.take i).map toRT) i = some true := by
  intro d
  induction d with
  | zero =>
    intro i k hi hk
    obtain ⟨k, rfl⟩ : ∃ k', k = k' + 1 := ⟨k - 1, by omega⟩
    unfold tocsinlaw23_PolicySays.l0
    rw [if_neg (by omega), List.take_of_length_le (by omega), rframe_is k _ (by omega), rholds_is k _ (by omega), map_toRT]
    unfold goodS
    generalize holdsS (l.map qT) = H
    generalize frameS (l.map qT) = F
    obtain ⟨h, e⟩ := H
    obtain ⟨n, f⟩ := F
    rw [Option.bind_some, Option.bind_some]
    dsimp only
    have last : (if h = true then some (decide ((e == 0) = (h && (e == 0)))) else some (decide (false = (h && (e == 0))))) = some true := by cases h <;> simp
    cases h
    · simp
    · simp
  | succ d ih =>
    intro i k hi hk
    obtain ⟨k, rfl⟩ : ∃ k', k = k' + 1 := ⟨k - 1, by omega⟩
    unfold tocsinlaw23_PolicySays.l0
    rw [if_pos (by omega), if_pos (by omega), if_pos (by rw [List.length_map, List.length_take]; omega), w64 (x := (i : Int) + 1) (by omega) (by omega), show (i : Int) + 1 = ((i + 1 : Nat) : Int) by omega]
    have := ih (i + 1) k (by omega) (by omega)
    rw [drop_T l i (by omega), List.map_append] at this
    exact this
theorem says (P Q : Int) (l : List S28) (k : Nat) (hk : 9223372036854775990 ≤ k) : tocsinlaw23_PolicySays.f k P Q l (goodS l) = some true := by
  unfold tocsinlaw23_PolicySays.f tocsinlaw23_awake.f
  rw [Option.bind_some, if_pos rfl]
  by_cases c : l.length > 6
  · rw [if_pos (by omega)]
  · rw [if_neg (by omega)]
    exact says_l0 l (by omega) l.length 0 k (by omega) (by omega)
set_option maxRecDepth 100000
set_option maxHeartbeats 8000000
theorem good_Skip (A : Option Addr) (c : Nat) (l : List S28) (bl : Bool) (W : World) (hC : Kd.C k28 W A l.length l) (hc : l.length ≤ c) :
    Calls Try.prog 11 #[.iface 38 (.agg #[.slice A l.length c, .bool bl])] W fun e w' => e = .returned (.bool (goodS l)) ∧ Below W.heap.size W w' := by
  have HB := Aside0.mk (Below.refl W.heap.size W)
  obtain ⟨h, e, hh⟩ : ∃ h e, holdsS (l.map qT) = (h, e) := ⟨_, _, rfl⟩
  have CH : Aside0 (∀ W', Below W.heap.size W W' → Calls Try.prog 25 #[.slice A l.length c] W' fun x w' => x = .returned (.tuple #[.bool h, .int .i64 e]) ∧ Below W'.heap.size W' w') :=
    ⟨fun W' hb => demand_Holds.calls 9223372036854775990 A c l h e W' (Kd.C_below hC hb) hc (by rw [holds_is _ _ (by omega), hh])⟩
  have HX : Aside0 (goodS l = (h && (e == 0))) := ⟨by unfold goodS; rw [hh]⟩
  clear hC hh
  cases h
  · go_enter Try.func11, Try.ntmps11
    go_wp2_with (first | (go_at_call 9; (with_reducible refine (asDover_Skip _ _ _ _ _).mono ?_); rintro e w7 ⟨rfl, hb⟩; have n0_ := Aside0.mk (below_step (by repeat (first | (with_reducible first | exact HB.out | apply below_alloc | apply pw_below_drewN | apply below_drew1) | exact HB.out)) hb); clear HB; have HB := n0_; clear n0_ hb) | (go_at_call 10; (with_reducible refine (asSkip_Skip _ _ _ _ _).mono ?_); rintro e w7 ⟨rfl, hb⟩; have n0_ := Aside0.mk (below_step (by repeat (first | (with_reducible first | exact HB.out | apply below_alloc | apply pw_below_drewN | apply below_drew1) | exact HB.out)) hb); clear HB; have HB := n0_; clear n0_ hb) | (go_at_call 25; (with_reducible refine (CH.out _ (by repeat (first | (with_reducible first | exact HB.out | apply below_alloc | apply pw_below_drewN | apply below_drew1) | exact HB.out))).mono ?_); rintro e w7 ⟨rfl, hb⟩; have n0_ := Aside0.mk (below_step (by repeat (first | (with_reducible first | exact HB.out | apply below_alloc | apply pw_below_drewN | apply below_drew1) | exact HB.out)) hb); clear HB; have HB := n0_; clear n0_ hb))
    go_ret
    exact ⟨by rw [HX.out]; rfl, (by repeat (first | (with_reducible first | exact HB.out | apply below_alloc | apply pw_below_drewN | apply below_drew1) | exact HB.out))⟩
  · go_enter Try.func11, Try.ntmps11
    go_wp2_with (first | (go_at_call 9; (with_reducible refine (asDover_Skip _ _ _ _ _).mono ?_); rintro e w7 ⟨rfl, hb⟩; have n0_ := Aside0.mk (below_step (by repeat (first | (with_reducible first | exact HB.out | apply below_alloc | apply pw_below_drewN | apply below_drew1) | exact HB.out)) hb); clear HB; have HB := n0_; clear n0_ hb) | (go_at_call 10; (with_reducible refine (asSkip_Skip _ _ _ _ _).mono ?_); rintro e w7 ⟨rfl, hb⟩; have n0_ := Aside0.mk (below_step (by repeat (first | (with_reducible first | exact HB.out | apply below_alloc | apply pw_below_drewN | apply below_drew1) | exact HB.out)) hb); clear HB; have HB := n0_; clear n0_ hb) | (go_at_call 25; (with_reducible refine (CH.out _ (by repeat (first | (with_reducible first | exact HB.out | apply below_alloc | apply pw_below_drewN | apply below_drew1) | exact HB.out))).mono ?_); rintro e w7 ⟨rfl, hb⟩; have n0_ := Aside0.mk (below_step (by repeat (first | (with_reducible first | exact HB.out | apply below_alloc | apply pw_below_drewN | apply below_drew1) | exact HB.out)) hb); clear HB; have HB := n0_; clear n0_ hb))
    go_ret
    exact ⟨by rw [HX.out]; rfl, (by repeat (first | (with_reducible first | exact HB.out | apply below_alloc | apply pw_below_drewN | apply below_drew1) | exact HB.out))⟩
def goodD (P Q : Int) : Bool := decide (0 ≤ P ∧ P ≤ 1000000 ∧ 1 ≤ Q ∧ Q ≤ 1000000 ∧ Q ≤ P)
theorem sin_is (a lo hi : Int) : surd_in.f a lo hi = some (decide (lo ≤ a ∧ a ≤ hi)) := by
  unfold surd_in.f
  split
  · congr 1
    rw [decide_eq_decide]
    omega
  · congr 1
    symm
    rw [decide_eq_false_iff_not]
    omega
theorem doverGood_is (P Q : Int) : dover_Good.f P Q = some (goodD P Q) := by
  unfold dover_Good.f surd_Good.f surd_root.f
  simp only [sin_is, Option.bind_some, show decide ((-1000000000 : Int) ≤ 0 ∧ (0 : Int) ≤ 1000000000) = true from by decide, if_true]
  unfold goodD
  by_cases h1 : 0 ≤ P ∧ P ≤ 1000000
  · rw [decide_eq_true h1, if_pos rfl, Option.bind_some]
    by_cases h2 : 1 ≤ Q ∧ Q ≤ 1000000
    · rw [decide_eq_true h2, Option.bind_some, if_pos rfl]
      congr 1
      rw [decide_eq_decide]
      omega
    · rw [decide_eq_false h2, Option.bind_some, if_neg (by simp)]
      congr 1
      symm
      rw [decide_eq_false_iff_not]
      omega
  · simp only [decide_eq_false h1, Bool.false_eq_true, if_false, Option.bind_some]
    congr 1
    symm
    rw [decide_eq_false_iff_not]
    omega
theorem goodRule_is (P Q : Int) : tocsinref8_GoodRule.f P Q = some (goodD P Q) := by
  unfold tocsinref8_GoodRule.f tocsinref1_Good.f goodD
  simp only [show (0 : Int) ≥ -1000000000 from by decide, show (0 : Int) ≤ 1000000000 from by decide, if_true]
  by_cases h1 : P ≥ 0
  · rw [if_pos h1]
    by_cases h2 : P ≤ 1000000
    · rw [if_pos h2]
      by_cases h3 : Q ≥ 1
      · rw [if_pos h3, Option.bind_some]
        by_cases h4 : Q ≤ 1000000
        · rw [decide_eq_true h4, if_pos rfl]
          congr 1
          rw [decide_eq_decide]
          omega
        · rw [decide_eq_false h4, if_neg (by simp)]
          congr 1
          symm
          rw [decide_eq_false_iff_not]
          omega
      · rw [if_neg h3, Option.bind_some, if_neg (by simp)]
        congr 1
        symm
        rw [decide_eq_false_iff_not]
        omega
    · rw [if_neg h2, Option.bind_some, if_neg (by simp)]
      congr 1
      symm
      rw [decide_eq_false_iff_not]
      omega
  · rw [if_neg h1, Option.bind_some, if_neg (by simp)]
    congr 1
    symm
    rw [decide_eq_false_iff_not]
    omega
theorem law (P Q : Int) (A : Option Addr) (c : Nat) (l : List S28) (bl : Bool) (W : World) (hC : Kd.C k28 W A l.length l) (hc : l.length ≤ c) :
    Calls Try.prog 3 #[.agg #[.int .i64 P, .int .i64 Q], .slice A l.length c, .bool bl] W fun e w' => e = .returned (.bool true) ∧ Below W.heap.size W w' :=
  tocsinlaw23_PolicySays.calls 9223372036854775990 P Q A c l (goodS l) bl (goodD P Q) true W hC hc (says P Q l _ (Nat.le_refl _)) rfl
    (fun w => good_Dover P Q (goodD P Q) w fun w => dover_Good.calls P Q _ w (doverGood_is P Q)) (fun w => tocsinref8_GoodRule.calls P Q _ w (goodRule_is P Q)) (fun w h => good_Skip A c l bl w h hc)
theorem el28 {H : Type} {enc : TypeId × Value → H} {w : World} {base : Nat} {spare : Nat → Bool} {held : Bool} : ∀ fuel cs x, DataW.trod enc Try.prog w base spare held fuel 28 cs = some x → ∃ y : S28, k28.K w y cs ∧ cs.length = 3 ∧ ((Lit.int .i64 y.f0).wf = true ∧ (Lit.int .i64 y.f1).wf = true ∧ (Lit.int .i64 y.f2).wf = true) := by
  intro fuel cs x h
  have hl := trod_size Try.underlying28 h
  rw [show Try.prog.cellsOf 28 = 3 by kernel_rfl] at hl
  obtain ⟨n0, y0, h0⟩ := trod_field Try.underlying28 (by kernel_rfl) h 0 _ rfl
  obtain ⟨n1, y1, h1⟩ := trod_field Try.underlying28 (by kernel_rfl) h 1 _ rfl
  obtain ⟨n2, y2, h2⟩ := trod_field Try.underlying28 (by kernel_rfl) h 2 _ rfl
  match cs, hl with
  | [u0, u1, u2], _ =>
    obtain ⟨a0, e0, _, w0⟩ := DataW.trod_int Try.underlying3 h0
    obtain ⟨a1, e1, _, w1⟩ := DataW.trod_int Try.underlying3 h1
    obtain ⟨a2, e2, _, w2⟩ := DataW.trod_int Try.underlying3 h2
    simp at e0 e1 e2
    subst e0 e1 e2
    exact ⟨⟨a0, a1, a2⟩, k28_mk w _, rfl, w0, w1, w2⟩
theorem own : ownKnob Try.prog.godebug = none := by kernel_rfl
theorem Try.laidOut : laidOutB Try.prog = true := by kernel_rfl
open Go.ChangeShapes Go.WideShapes Go.ChangeAt Go.RowKit
open Go.ChangeMaps (open_string shut_string)
set_option maxRecDepth 100000 in
theorem lifted (os : Os) (started : os.Started) (H : Type) (enc : TypeId × Value → H) :
    ReturnsInHanded {} Try.checked os 3 .any (Rows.policySaysSpec.pre6 enc Try.prog Try.f3 Rows.policySaysRow.domain false) (Rows.policySaysSpec.post enc Try.prog Try.f3 false true false false) := by
  refine returnsInHanded_of_change_sized (C := Try.checked) own started (by kernel_rfl) Try.func3
    (ChangeSpec.witness6 (enc := enc) (C := Try.checked) false ⟨#[], #[.agg #[.int .i64 0, .int .i64 0], .slice none 0 0, .bool false], []⟩ 8 (by kernel_rfl) (by kernel_rfl) (by kernel_rfl) (by kernel_rfl)) ?_
  intro W base args ds gs before hval0 hW hcnd hsz0 _
  have hsz : (DataW.weightsEach Try.prog (Try.f3.params.toList ++ Rows.policySaysSpec.plain.varTypes Try.prog) (ds ++ gs)).all (· ≤ reachBytes) = true := hsz0
  have hval : ∀ (j : Nat) t v, Try.f3.params[j]? = some t → args[j]? = some v → Value.okWide Try.prog W .any base t v := hval0
  have hW' := hW
  obtain ⟨p, q, hA0, hV, rfl, hfz, hnd⟩ := hW
  have hA : DataW.TrodAll enc Try.prog W 0 (fun _ => true) true Try.f3.params.toList args.toList ds p := hA0
  rw [Try.params3] at hA hval hsz
  obtain ⟨v0, vs0, d0, ds0, p0, q0, hargs, rfl, rfl, h0, r0⟩ := trodAll_cons hA
  obtain ⟨v1, vs1, d1, ds1, p1, q1, rfl, rfl, rfl, h1, r1⟩ := trodAll_cons r0
  obtain ⟨v2, vs2, d2, ds2, p2, q2, rfl, rfl, rfl, h2, r2⟩ := trodAll_cons r1
  obtain ⟨rfl, rfl, rfl⟩ := trodAll_nil r2
  obtain rfl : args = #[v0, v1, v2] := by cases args; simp_all
  obtain ⟨rfl, rfl⟩ := trodVars_none hV
  have k0 := h0
  have k1 := h1
  have k2 := h2
  have lt0 : ∀ x ∈ p0, x.block < W.heap.size := by obtain ⟨m, hm⟩ := k0; exact DataW.trod_lt m _ _ _ hm
  have lt1 : ∀ x ∈ p1, x.block < W.heap.size := by obtain ⟨m, hm⟩ := k1; exact DataW.trod_lt m _ _ _ hm
  have lt2 : ∀ x ∈ p2, x.block < W.heap.size := by obtain ⟨m, hm⟩ := k2; exact DataW.trod_lt m _ _ _ hm
  obtain ⟨c0_0, c0_1, y0_0, y0_1, m0, rfl, rfl, rfl, hy0_0, hy0_1⟩ := Go.Joins.open_agg2 Try.underlying23 (by kernel_rfl) (by kernel_rfl) (hval 0 23 v0 rfl rfl) h0
  obtain ⟨a0_0, e0_0, rfl, w0_0⟩ := DataW.trod_int Try.underlying2 hy0_0
  obtain rfl := (List.cons.inj e0_0).1
  obtain ⟨a0_1, e0_1, rfl, w0_1⟩ := DataW.trod_int Try.underlying2 hy0_1
  obtain rfl := (List.cons.inj e0_1).1
  obtain ⟨a1, len1, cap1, rfl⟩ := okWide_slice Try.underlying24 (hval 1 24 v1 rfl rfl)
  obtain ⟨fuel1, hf1⟩ := h1
  obtain ⟨l1, rfl, hr1, hc1, hm1, hw1⟩ := kd_row Try.underlying24 (sz := 3) (by kernel_rfl) k28 rfl z28 _ el28 (by simpa [Value.cells] using hf1)
  obtain ⟨a2, rfl, rfl, rfl⟩ := open_bool Try.underlying4 (hval 2 4 v2 rfl rfl) h2
  clear hA0 hval0 hsz0 hsz
  refine (law a0_0 a0_1 a1 cap1 l1 a2 W hr1 hc1).mono fun e W' ⟨he, bel⟩ => ?_
  subst he
  exact ⟨_, rfl, _, _, _, _, _, [], hW', trodAll_mk1 (shut_bool Try.underlying4 _), (trodAll_cons_mk (Below.trod Try.laidOut (by kernel_rfl) (of_decide_eq_true (by kernel_rfl)) k0 bel lt0) (trodAll_cons_mk (Below.trod Try.laidOut (by kernel_rfl) (of_decide_eq_true (by kernel_rfl)) k1 bel lt1) (trodAll_cons_mk (Below.trod Try.laidOut (by kernel_rfl) (of_decide_eq_true (by kernel_rfl)) k2 bel lt2) trodAll_mk0))), rfl, bel.frame _, fun h => by cases h⟩
theorem over : Rows.policySaysRow.holds Try.pinned (OpenSpec.ofChange Rows.policySaysSpec) :=
  OpenClaim.holds_of_wide 3 Try.f3 rfl rfl rfl rfl rfl rfl rfl ⟨rfl, rfl, rfl, rfl, rfl⟩ rfl rfl rfl rfl rfl (by kernel_rfl) Try.func3 (by kernel_rfl)
    (of_decide_eq_true (by kernel_rfl)) (by unfold Func.isWrapper; first | (rw [if_pos (by decide +kernel)]; kernel_rfl) | (rw [if_neg (by decide +kernel)]; exact ⟨rfl, rfl⟩))
    (fun os started H enc _ => lifted os started H enc)
end Go.Proofs.Ytbfjnlnnjhfamaa.Pure
namespace Go.Proofs.Ytbfjnlnnjhfamaa
/-- The row, under a short name, for the claim. -/
theorem policySays_holds : Rows.PolicySaysSaid := Pure.over
end Go.Proofs.Ytbfjnlnnjhfamaa
#print axioms Go.Proofs.Ytbfjnlnnjhfamaa.policySays_holds
namespace Go.Proofs.Ytbfjnlnnjhfamaa.Pure

end Go.Proofs.Ytbfjnlnnjhfamaa.Pure
