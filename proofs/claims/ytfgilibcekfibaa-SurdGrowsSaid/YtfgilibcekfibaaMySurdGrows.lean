/- What is above so often another value stays so where it grows or the other falls, and what is within the bound stays so the other way: for every five 64-bit numbers. -/
import Derived.Test.YtfgilibcekfibaaPSurdGrowsx2
import Derived.Test.YtfgilibcekfibaaMySurdGrowsA
import Derived.Test.YtfgilibcekfibaaMySurdGrowsB
import Derived.Test.YtfgilibcekfibaaMySurdGrowsC
import Derived.Test.YtfgilibcekfibaaRows
import Derived.WalkKit
import Derived.ProofKit
import Derived.OpenShut
import Derived.ShutString
import Derived.ChangeOld
import Derived.Below
import Derived.SizedLaws
import Derived.Carry
import Derived.Lib.SmallJoins
import Derived.Test.YtfgilibcekfibaaWSized
namespace Go.Proofs.Ytfgilibcekfibaa.Pure
open Go.RowKit Go.Proofs.Ytfgilibcekfibaa.PSurdGrows Go.Proofs.YtfgilibcekfibaaW.PrintWords Go.Proofs.YtfgilibcekfibaaW.PrintLast Go.Proofs.YtfgilibcekfibaaW.PrintMore 
set_option linter.unusedVariables false
set_option linter.unusedSimpArgs false

theorem grows_in (v w p q t : Int) (A1 A2 A3 B1 B2 B3 : Bool) (h : Inn v w p q t A1 A2 A3 B1 B2 B3)
    (i1 : A1 = true → A2 = true) (i2 : A3 = true → A1 = true) (i3 : B1 = true → B2 = true) (i4 : B2 = true → B3 = true) : Goal v w p q t := by
  cases A1 <;> cases A3 <;> (first | (exact absurd (i2 rfl) (by decide)) | skip) <;> cases B1 <;> cases B2 <;> (first | (exact absurd (i3 rfl) (by decide)) | skip)
  · exact grows_8 v w p q t A2 B3 h
  · obtain rfl := i4 rfl; exact grows_7 v w p q t A2 h
  · obtain rfl := i4 rfl; exact grows_6 v w p q t A2 h
  · obtain rfl := i1 rfl; exact grows_5 v w p q t B3 h
  · obtain rfl := i1 rfl; obtain rfl := i4 rfl; exact grows_4 v w p q t h
  · obtain rfl := i1 rfl; obtain rfl := i4 rfl; exact grows_3 v w p q t h
  · obtain rfl := i1 rfl; exact grows_2 v w p q t B3 h
  · obtain rfl := i1 rfl; obtain rfl := i4 rfl; exact grows_1 v w p q t h
  · obtain rfl := i1 rfl; obtain rfl := i4 rfl; exact grows_0 v w p q t h
theorem grows_all (v w p q t : Int) (W : World) : Calls Try.prog 5 #[.int .i64 v, .int .i64 w, .int .i64 p, .int .i64 q, .int .i64 t] W fun e w' => e = .returned (.bool true) ∧ Below W.heap.size W w' := by
  by_cases h : v < 0 ∨ w < 0 ∨ t < 0 ∨ 100000000 < v ∨ 100000000 < w ∨ 100000000 < t
  · exact grows_out v w p q t W h
  · refine grows_in v w p q t _ _ _ _ _ _ ⟨by omega, by omega, by omega, by omega, by omega, by omega, Above_any v w p q, Above_any (v + t) w p q, Above_any v (w + t) p q, Bound_any (v + t) w p q, Bound_any v w p q, Bound_any v (w + t) p q⟩ ?_ ?_ ?_ ?_ W
    · intro g; exact decide_eq_true (above_up (by omega) (by omega) (of_decide_eq_true g))
    · intro g; exact decide_eq_true (above_down (by omega) (by omega) (of_decide_eq_true g))
    · intro g; exact decide_eq_true (bound_down (by omega) (by omega) (of_decide_eq_true g))
    · intro g; exact decide_eq_true (bound_up (by omega) (by omega) (of_decide_eq_true g))
theorem own : ownKnob Try.prog.godebug = none := by kernel_rfl
theorem Try.laidOut : laidOutB Try.prog = true := by kernel_rfl
open Go.ChangeShapes Go.WideShapes Go.ChangeAt Go.RowKit
open Go.ChangeMaps (open_string shut_string)
set_option maxRecDepth 100000 in
theorem lifted (os : Os) (started : os.Started) (H : Type) (enc : TypeId × Value → H) :
    ReturnsInHanded {} Try.checked os 5 .any (Rows.surdGrowsSpec.pre6 enc Try.prog Try.f5 Rows.surdGrowsRow.domain false) (Rows.surdGrowsSpec.post enc Try.prog Try.f5 false true false false) := by
  refine returnsInHanded_of_change_sized (C := Try.checked) own started (by kernel_rfl) Try.func5
    (ChangeSpec.witness6 (enc := enc) (C := Try.checked) false ⟨#[], #[.int .i64 0, .int .i64 0, .int .i64 0, .int .i64 0, .int .i64 0], []⟩ 8 (by kernel_rfl) (by kernel_rfl) (by kernel_rfl) (by kernel_rfl)) ?_
  intro W base args ds gs before hval0 hW hcnd hsz0 _
  have hsz : (DataW.weightsEach Try.prog (Try.f5.params.toList ++ Rows.surdGrowsSpec.plain.varTypes Try.prog) (ds ++ gs)).all (· ≤ reachBytes) = true := hsz0
  have hval : ∀ (j : Nat) t v, Try.f5.params[j]? = some t → args[j]? = some v → Value.okWide Try.prog W .any base t v := hval0
  have hW' := hW
  obtain ⟨p, q, hA0, hV, rfl, hfz, hnd⟩ := hW
  have hA : DataW.TrodAll enc Try.prog W 0 (fun _ => true) true Try.f5.params.toList args.toList ds p := hA0
  rw [Try.params5] at hA hval hsz
  obtain ⟨v0, vs0, d0, ds0, p0, q0, hargs, rfl, rfl, h0, r0⟩ := trodAll_cons hA
  obtain ⟨v1, vs1, d1, ds1, p1, q1, rfl, rfl, rfl, h1, r1⟩ := trodAll_cons r0
  obtain ⟨v2, vs2, d2, ds2, p2, q2, rfl, rfl, rfl, h2, r2⟩ := trodAll_cons r1
  obtain ⟨v3, vs3, d3, ds3, p3, q3, rfl, rfl, rfl, h3, r3⟩ := trodAll_cons r2
  obtain ⟨v4, vs4, d4, ds4, p4, q4, rfl, rfl, rfl, h4, r4⟩ := trodAll_cons r3
  obtain ⟨rfl, rfl, rfl⟩ := trodAll_nil r4
  obtain rfl : args = #[v0, v1, v2, v3, v4] := by cases args; simp_all
  obtain ⟨rfl, rfl⟩ := trodVars_none hV
  have k0 := h0
  have k1 := h1
  have k2 := h2
  have k3 := h3
  have k4 := h4
  have lt0 : ∀ x ∈ p0, x.block < W.heap.size := by obtain ⟨m, hm⟩ := k0; exact DataW.trod_lt m _ _ _ hm
  have lt1 : ∀ x ∈ p1, x.block < W.heap.size := by obtain ⟨m, hm⟩ := k1; exact DataW.trod_lt m _ _ _ hm
  have lt2 : ∀ x ∈ p2, x.block < W.heap.size := by obtain ⟨m, hm⟩ := k2; exact DataW.trod_lt m _ _ _ hm
  have lt3 : ∀ x ∈ p3, x.block < W.heap.size := by obtain ⟨m, hm⟩ := k3; exact DataW.trod_lt m _ _ _ hm
  have lt4 : ∀ x ∈ p4, x.block < W.heap.size := by obtain ⟨m, hm⟩ := k4; exact DataW.trod_lt m _ _ _ hm
  obtain ⟨a0, rfl, rfl, rfl, w0⟩ := open_int Try.underlying2 (hval 0 2 v0 rfl rfl) h0
  obtain ⟨a1, rfl, rfl, rfl, w1⟩ := open_int Try.underlying2 (hval 1 2 v1 rfl rfl) h1
  obtain ⟨a2, rfl, rfl, rfl, w2⟩ := open_int Try.underlying2 (hval 2 2 v2 rfl rfl) h2
  obtain ⟨a3, rfl, rfl, rfl, w3⟩ := open_int Try.underlying2 (hval 3 2 v3 rfl rfl) h3
  obtain ⟨a4, rfl, rfl, rfl, w4⟩ := open_int Try.underlying2 (hval 4 2 v4 rfl rfl) h4
  clear hA0 hval0 hsz0 hsz
  refine (grows_all a0 a1 a2 a3 a4 W).mono fun e W' ⟨he, bel⟩ => ?_
  subst he
  exact ⟨_, rfl, _, _, _, _, _, [], hW', trodAll_mk1 (shut_bool Try.underlying4 _), (trodAll_cons_mk (Below.trod Try.laidOut (by kernel_rfl) (of_decide_eq_true (by kernel_rfl)) k0 bel lt0) (trodAll_cons_mk (Below.trod Try.laidOut (by kernel_rfl) (of_decide_eq_true (by kernel_rfl)) k1 bel lt1) (trodAll_cons_mk (Below.trod Try.laidOut (by kernel_rfl) (of_decide_eq_true (by kernel_rfl)) k2 bel lt2) (trodAll_cons_mk (Below.trod Try.laidOut (by kernel_rfl) (of_decide_eq_true (by kernel_rfl)) k3 bel lt3) (trodAll_cons_mk (Below.trod Try.laidOut (by kernel_rfl) (of_decide_eq_true (by kernel_rfl)) k4 bel lt4) trodAll_mk0))))), rfl, bel.frame _, fun h => by cases h⟩
theorem over : Rows.surdGrowsRow.holds Try.pinned (OpenSpec.ofChange Rows.surdGrowsSpec) :=
  OpenClaim.holds_of_wide 5 Try.f5 rfl rfl rfl rfl rfl rfl rfl ⟨rfl, rfl, rfl, rfl, rfl⟩ rfl rfl rfl rfl rfl (by kernel_rfl) Try.func5 (by kernel_rfl)
    (of_decide_eq_true (by kernel_rfl)) (by unfold Func.isWrapper; first | (rw [if_pos (by decide +kernel)]; kernel_rfl) | (rw [if_neg (by decide +kernel)]; exact ⟨rfl, rfl⟩))
    (fun os started H enc _ => lifted os started H enc)
end Go.Proofs.Ytfgilibcekfibaa.Pure
namespace Go.Proofs.Ytfgilibcekfibaa
/-- The row, under a short name, for the claim. -/
theorem surdGrows_holds : Rows.SurdGrowsSaid := Pure.over
end Go.Proofs.Ytfgilibcekfibaa
#print axioms Go.Proofs.Ytfgilibcekfibaa.surdGrows_holds
namespace Go.Proofs.Ytfgilibcekfibaa.Pure

end Go.Proofs.Ytfgilibcekfibaa.Pure
