/- A task alone is held just if its need goes into its period: for every task (of one whose frame is above 2000 nothing is asked). -/
import Derived.Test.YticnfjoodcacmaaPDemBx
import Derived.Test.YticnfjoodcacmaaDemKit
import Derived.Test.YticnfjoodcacmaaRows
import Derived.WalkKit
import Derived.ProofKit
import Derived.OpenShut
import Derived.ShutString
import Derived.ChangeOld
import Derived.Below
import Derived.SizedLaws
import Derived.Carry
import Derived.Lib.SmallJoins
import Derived.Test.YticnfjoodcacmaaWSized
namespace Go.Proofs.Yticnfjoodcacmaa.Pure
open Go.RowKit Go.Proofs.Yticnfjoodcacmaa.PDemB Go.Proofs.YticnfjoodcacmaaW.PrintWords Go.Proofs.YticnfjoodcacmaaW.PrintLast Go.Proofs.YticnfjoodcacmaaW.PrintMore 
set_option linter.unusedVariables false
set_option linter.unusedSimpArgs false

theorem frame_one (p n s : Int) (hg : goodTB p n s = true) (hl : p * max s 1 ≤ 100000) : frameS [(p, n, s)] = (p * max s 1, 0) := by
  have hb := long_bd (t := (p, n, s)) hg
  have e : (lcmFrom 1 [p * max s 1] : Int) = p * max s 1 := by
    simp only [lcmFrom, Nat.lcm_one_left]
    unfold longS at hb; simp only at hb; omega
  unfold frameS
  rw [if_neg (by simp [hg])]
  have h2 : lcmS 100000 1 ([(p, n, s)].map longS) = (p * max s 1, true) := by
    show lcmS 100000 1 [p * max s 1] = _
    unfold lcmS
    unfold longS at hb; simp only at hb
    rw [if_pos ⟨fun x hx => by rw [List.mem_singleton.1 hx]; omega, by omega⟩, e]
  rw [h2]; rfl
theorem holds_one (p n s : Int) (hg : goodTB p n s = true) (hl : p * max s 1 ≤ 100000) : holdsS [(p, n, s)] = (decide (n ≤ p), 0) := by
  have ⟨h1, h2, h3, h4, h5⟩ := goodTB_iff hg
  have hp : p ≤ p * max s 1 := by
    have := Int.mul_le_mul_of_nonneg_left (show 1 ≤ max s 1 by omega) (show 0 ≤ p by omega)
    omega
  unfold holdsS
  rw [frame_one p n s hg hl]
  simp only [if_true]
  congr 1
  have ha : ∀ x : Int, allS [(p, n, s)] x = ofS (p, n, s) x := fun x => by unfold allS; rw [if_neg (by simp)]; simp [sumS]
  rw [Bool.eq_iff_iff, decide_eq_true_iff, List.all_eq_true]
  constructor
  · intro h
    have := h (p - 1).toNat (List.mem_range.2 (by omega))
    rw [decide_eq_true_iff, ha, show (((p - 1).toNat : Nat) : Int) + 1 = p by omega] at this
    unfold ofS at this
    rw [if_pos ⟨hg, (show 0 ≤ p by omega)⟩] at this
    simp only at this
    rw [show min p 1000000 = p by omega, Int.ediv_self (by omega)] at this
    by_cases hs : 0 < s
    · rw [if_pos hs, Int.ediv_eq_zero_of_lt (by omega) (by omega)] at this; omega
    · rw [if_neg hs] at this; omega
  · intro h i hi
    rw [decide_eq_true_iff, ha]
    unfold ofS
    simp only
    by_cases hc : goodTB p n s = true ∧ 0 ≤ (i : Int) + 1
    · rw [if_pos hc]
      have hm0 : 0 ≤ min ((i : Int) + 1) 1000000 / p := Int.ediv_nonneg (by omega) (by omega)
      have hmp : min ((i : Int) + 1) 1000000 / p * p ≤ min ((i : Int) + 1) 1000000 := Int.ediv_mul_le _ (by omega)
      generalize min ((i : Int) + 1) 1000000 / p = m at *
      have hd : 0 < s → 0 ≤ m / s := fun g => Int.ediv_nonneg hm0 (by omega)
      have k1 : (if 0 < s then m - m / s else m) ≤ m := by split <;> omega
      have k2 : 0 ≤ m := hm0
      have := Int.mul_le_mul_of_nonneg_right k1 (show 0 ≤ n by omega)
      have := Int.mul_le_mul_of_nonneg_left h k2
      omega
    · rw [if_neg hc]; omega
theorem one (p n s : Int) (k : Nat) (hk : 9223372036854775990 ≤ k) : tocsinlaw11_DemandOne.f k p n s = some true := by
  unfold tocsinlaw11_DemandOne.f
  rw [awake_is k (by omega), goodT_is']
  simp only [Option.bind_some, if_true]
  cases hg : goodTB p n s
  · simp
  · have ⟨h1, h2, h3, h4, h5⟩ := goodTB_iff hg
    simp only [if_true]
    refine g_if fun hp => ?_
    rw [holds_is k _ (by omega)]
    by_cases hs : s > 0
    · rw [if_pos hs]
      have hb := mul_bd0 (x := p) (y := s) 10000 1000 (by omega) (by omega) (by omega) (by omega)
      rw [w64 (x := p * s) (by omega) (by omega)]
      refine g_if fun hps => ?_
      have := holds_one p n s hg (by rw [show max s 1 = s by omega]; omega)
      rw [show holdsS ([(⟨p, n, s⟩ : S27)].map qT) = (decide (n ≤ p), 0) from this]
      simp
    · rw [if_neg hs]
      have := holds_one p n s hg (by rw [show max s 1 = 1 by omega]; omega)
      rw [show holdsS ([(⟨p, n, s⟩ : S27)].map qT) = (decide (n ≤ p), 0) from this]
      simp
theorem own : ownKnob Try.prog.godebug = none := by kernel_rfl
theorem Try.laidOut : laidOutB Try.prog = true := by kernel_rfl
open Go.ChangeShapes Go.WideShapes Go.ChangeAt Go.RowKit
open Go.ChangeMaps (open_string shut_string)
set_option maxRecDepth 100000 in
theorem lifted (os : Os) (started : os.Started) (H : Type) (enc : TypeId × Value → H) :
    ReturnsInHanded {} Try.checked os 6 .any (Rows.demandOneSpec.pre6 enc Try.prog Try.f6 Rows.demandOneRow.domain false) (Rows.demandOneSpec.post enc Try.prog Try.f6 false true false false) := by
  refine returnsInHanded_of_change_sized (C := Try.checked) own started (by kernel_rfl) Try.func6
    (ChangeSpec.witness6 (enc := enc) (C := Try.checked) false ⟨#[], #[.agg #[.int .i64 0, .int .i64 0, .int .i64 0]], []⟩ 8 (by kernel_rfl) (by kernel_rfl) (by kernel_rfl) (by kernel_rfl)) ?_
  intro W base args ds gs before hval0 hW hcnd hsz0 _
  have hsz : (DataW.weightsEach Try.prog (Try.f6.params.toList ++ Rows.demandOneSpec.plain.varTypes Try.prog) (ds ++ gs)).all (· ≤ reachBytes) = true := hsz0
  have hval : ∀ (j : Nat) t v, Try.f6.params[j]? = some t → args[j]? = some v → Value.okWide Try.prog W .any base t v := hval0
  have hW' := hW
  obtain ⟨p, q, hA0, hV, rfl, hfz, hnd⟩ := hW
  have hA : DataW.TrodAll enc Try.prog W 0 (fun _ => true) true Try.f6.params.toList args.toList ds p := hA0
  rw [Try.params6] at hA hval hsz
  obtain ⟨v0, vs0, d0, ds0, p0, q0, hargs, rfl, rfl, h0, r0⟩ := trodAll_cons hA
  obtain ⟨rfl, rfl, rfl⟩ := trodAll_nil r0
  obtain rfl : args = #[v0] := by cases args; simp_all
  obtain ⟨rfl, rfl⟩ := trodVars_none hV
  have k0 := h0
  have lt0 : ∀ x ∈ p0, x.block < W.heap.size := by obtain ⟨m, hm⟩ := k0; exact DataW.trod_lt m _ _ _ hm
  obtain ⟨c0_0, c0_1, c0_2, y0_0, y0_1, y0_2, m0, rfl, rfl, rfl, hy0_0, hy0_1, hy0_2⟩ := Go.Joins.open_agg3 Try.underlying27 (by kernel_rfl) (by kernel_rfl) (hval 0 27 v0 rfl rfl) h0
  obtain ⟨a0_0, e0_0, rfl, w0_0⟩ := DataW.trod_int Try.underlying3 hy0_0
  obtain rfl := (List.cons.inj e0_0).1
  obtain ⟨a0_1, e0_1, rfl, w0_1⟩ := DataW.trod_int Try.underlying3 hy0_1
  obtain rfl := (List.cons.inj e0_1).1
  obtain ⟨a0_2, e0_2, rfl, w0_2⟩ := DataW.trod_int Try.underlying3 hy0_2
  obtain rfl := (List.cons.inj e0_2).1
  clear hA0 hval0 hsz0 hsz
  refine (tocsinlaw11_DemandOne.calls 9223372036854775990 a0_0 a0_1 a0_2 true W (one a0_0 a0_1 a0_2 _ (Nat.le_refl _))).mono fun e W' ⟨he, bel⟩ => ?_
  subst he
  exact ⟨_, rfl, _, _, _, _, _, [], hW', trodAll_mk1 (shut_bool Try.underlying4 _), (trodAll_cons_mk (Below.trod Try.laidOut (by kernel_rfl) (of_decide_eq_true (by kernel_rfl)) k0 bel lt0) trodAll_mk0), rfl, bel.frame _, fun h => by cases h⟩
theorem over : Rows.demandOneRow.holds Try.pinned (OpenSpec.ofChange Rows.demandOneSpec) :=
  OpenClaim.holds_of_wide 6 Try.f6 rfl rfl rfl rfl rfl rfl rfl ⟨rfl, rfl, rfl, rfl, rfl⟩ rfl rfl rfl rfl rfl (by kernel_rfl) Try.func6 (by kernel_rfl)
    (of_decide_eq_true (by kernel_rfl)) (by unfold Func.isWrapper; first | (rw [if_pos (by decide +kernel)]; kernel_rfl) | (rw [if_neg (by decide +kernel)]; exact ⟨rfl, rfl⟩))
    (fun os started H enc _ => lifted os started H enc)
end Go.Proofs.Yticnfjoodcacmaa.Pure
namespace Go.Proofs.Yticnfjoodcacmaa
/-- The row, under a short name, for the claim. -/
theorem demandOne_holds : Rows.DemandOneSaid := Pure.over
end Go.Proofs.Yticnfjoodcacmaa
#print axioms Go.Proofs.Yticnfjoodcacmaa.demandOne_holds
namespace Go.Proofs.Yticnfjoodcacmaa.Pure

end Go.Proofs.Yticnfjoodcacmaa.Pure
