/- What chapter 12 says at the ends: one closed statement. -/
import Derived.Test.YteahinhmdeakfaaDoorPUtx3
import Derived.Test.YteahinhmdeakfaaDoorCards
import Derived.Test.YteahinhmdeakfaaDoorTie
import Derived.LaidMore
import Derived.Stop.Joined
import Derived.SevenTiedAt
import Derived.Lib.LaidTab
import Derived.Test.YteahinhmdeakfaaDoorRows
import Derived.WalkKit
import Derived.ProofKit
import Derived.OpenShut
import Derived.ShutString
import Derived.ChangeOld
import Derived.Below
import Derived.SizedLaws
import Derived.Carry
import Derived.Lib.SmallJoins
import Derived.Test.YteahinhmdeakfaaDoorWSized
namespace Go.Proofs.YteahinhmdeakfaaDoor.Pure
open Go.RowKit Go.Proofs.YteahinhmdeakfaaDoor.PUt Go.Proofs.YteahinhmdeakfaaDoorW.PrintWords Go.Proofs.YteahinhmdeakfaaDoorW.PrintLast Go.Proofs.YteahinhmdeakfaaDoorW.PrintMore 
set_option linter.unusedVariables false
set_option linter.unusedSimpArgs false

theorem work_is (n : Int) : util_work.f n = some (decide (1 ≤ n ∧ n ≤ 1000)) := by
  unfold util_work.f
  repeat' split
  all_goals (congr 1; first | rfl | (rw [decide_eq_decide]; omega) | (symm; rw [decide_eq_true_iff]; omega) | (symm; rw [decide_eq_false_iff_not]; omega))
def upd (x s : Int) : Int := -(-x / s)
theorem upd_bd {s : Int} (x : Int) (hs : 0 < s) : x ≤ upd x s * s ∧ upd x s * s < x + s := by
  unfold upd
  have h1 := Int.ediv_mul_le (-x) (show s ≠ 0 by omega)
  have h2 := Int.lt_ediv_add_one_mul_self (-x) hs
  rw [Int.add_mul, Int.one_mul] at h2
  rw [Int.neg_mul]
  omega
/-- The share of a need: rounded up. -/
def shareOf (n p : Int) : Int × Bool := if (1 ≤ n ∧ n ≤ 1000) ∧ 1 ≤ p ∧ p ≤ 10000 then (upd (n * 1048576) p, true) else (0, false)
theorem up_pos {x c : Int} (h0 : 1 ≤ x) (hc : 0 < c) : 1 ≤ upd x c ∧ upd x c ≤ x := by
  have ⟨b1, b2⟩ := upd_bd x hc
  constructor
  · have : 0 * c < upd x c * c := by omega
    have := Int.lt_of_mul_lt_mul_right this (by omega)
    omega
  · have h : (upd x c - 1) * c < x := by rw [Int.sub_mul, Int.one_mul]; omega
    by_cases g : upd x c ≤ 1
    · omega
    · have : (upd x c - 1) * 1 ≤ (upd x c - 1) * c := Int.mul_le_mul_of_nonneg_left (by omega) (by omega)
      omega
theorem up_is {n c : Int} (h0 : 1 ≤ n) (h1 : n ≤ 1000) (hc : 0 < c) (hc2 : c ≤ 9223372036854775807) : num_Up.f n 1048576 c = some (upd (n * 1048576) c, true) := by
  unfold num_Up.f
  rw [if_pos (by omega)]
  unfold upI
  rw [if_neg (by omega)]
  show some (held64 (upd (n * 1048576) c)) = _
  have := up_pos (x := n * 1048576) (c := c) (by omega) hc
  unfold held64
  rw [if_pos (by unfold fits; omega)]
theorem of_is (n p : Int) (hp : -9223372036854775808 ≤ p ∧ p ≤ 9223372036854775807) : util_Of.f n p = some (shareOf n p) := by
  unfold util_Of.f shareOf
  rw [work_is]
  simp only [Option.bind_some]
  by_cases h : 1 ≤ n ∧ n ≤ 1000
  · rw [decide_eq_true h]
    simp only [if_true]
    by_cases h1 : p < 1
    · rw [if_pos h1, if_neg (by omega)]
    · rw [if_neg h1]
      by_cases h2 : p > 10000
      · rw [if_pos h2, if_neg (by omega)]
      · rw [if_neg h2, if_pos (by omega), up_is h.1 h.2 (by omega) (by omega)]; rfl
  · rw [decide_eq_false h]
    simp only [Bool.false_eq_true, if_false]
    rw [if_neg (by omega)]
/-- The period of a share. -/
def periodOf (n s : Int) : Int × Bool := if ((1 ≤ n ∧ n ≤ 1000) ∧ 1 ≤ s) ∧ upd (n * 1048576) s ≤ 10000 then (upd (n * 1048576) s, true) else (0, false)
theorem period_is (k : Nat) (n s : Int) (hs : -9223372036854775808 ≤ s ∧ s ≤ 9223372036854775807) (hk : 1 ≤ k) : util_Period.f k n s = some (periodOf n s) := by
  obtain ⟨k, rfl⟩ : ∃ m, k = m + 1 := ⟨k - 1, by omega⟩
  unfold util_Period.f periodOf
  rw [work_is]
  simp only [Option.bind_some, util_Period.j0]
  by_cases h : 1 ≤ n ∧ n ≤ 1000
  · rw [decide_eq_true h]
    simp only [if_true]
    by_cases h1 : s < 1
    · rw [decide_eq_true h1]
      simp only [if_true]
      rw [if_neg (by omega)]
    · rw [decide_eq_false h1, up_is h.1 h.2 (by omega) (by omega)]
      simp only [Bool.false_eq_true, if_false, Option.bind_some, if_true]
      by_cases h2 : upd (n * 1048576) s > 10000
      · rw [if_pos h2, if_neg (by omega)]
      · rw [if_neg h2, if_pos (by omega)]
  · rw [decide_eq_false h]
    simp only [Bool.false_eq_true, if_false, if_true]
    rw [if_neg (by omega)]
theorem LeO_up {α : Type} {f : Nat → Option α} (h : ∀ k, LeO (f k) (f (k + 1))) {r : α} {k : Nat} (e : f k = some r) : ∀ m, f (k + m) = some r
  | 0 => e
  | m + 1 => h _ r (LeO_up h e m)
theorem awake_is (k : Nat) (hk : 20 ≤ k) : tocsinlaw12_awake.f k = some true := by
  have := LeO_up (f := tocsinlaw12_awake.f) (fun k => tocsinlaw12_awake.mono k) (k := 20) (r := true) (by decide +kernel) (k - 20)
  rw [show 20 + (k - 20) = k by omega] at this
  exact this
/-- Up, and up again: not above. -/
theorem up_le {a b c : Int} (hc : 0 < c) (h : a ≤ b * c) : upd a c ≤ b := by
  have ⟨b1, b2⟩ := upd_bd a hc
  have : upd a c * c < (b + 1) * c := by rw [Int.add_mul, Int.one_mul]; omega
  have := Int.lt_of_mul_lt_mul_right this (by omega)
  omega
theorem up_gt {a b c : Int} (hc : 0 < c) (h : b * c < a) : b < upd a c := by
  have ⟨b1, b2⟩ := upd_bd a hc
  exact Int.lt_of_mul_lt_mul_right (show b * c < upd a c * c by omega) (by omega)


theorem known : tocsinlaw12_UtilKnown.f 60 = some true := by decide +kernel
theorem own : ownKnob Tryd.prog.godebug = none := by kernel_rfl
theorem Tryd.laidOut : laidOutB Tryd.prog = true := by kernel_rfl
open Go.ChangeShapes Go.WideShapes Go.ChangeAt Go.RowKit
open Go.ChangeMaps (open_string shut_string)
abbrev laidL : List (String × DataW Unit) := [("math/bits.deBruijn32tab", Rows.laid_math_bits_deBruijn32tab), ("math/bits.deBruijn64tab", Rows.laid_math_bits_deBruijn64tab), ("internal/strconv.uint64pow10", Rows.laid_internal_strconv_uint64pow10)]
theorem door_met (os : Os) (args : Array Value) : laidMetH Tryd.prog laidL ((World.doorLaid Tryd.prog 400 os).forCall (fun _ _ => 0) ⟨#[], args, []⟩).memory :=
  laidMetH_of_parts3 (fuel := 8) (laidMet_of_run' 8 (by kernel_rfl) (by kernel_rfl)) (by kernel_rfl) (by kernel_rfl)
theorem tab_of_laid {W : World} (h : laidMetH Tryd.prog laidL W) : Tab W := by
  rw [MakeChecks.laidMetH_plain _ _ _ (by kernel_rfl)] at h
  obtain ⟨ps, ⟨g0, t0, cs0, f0, p0, q0, hg0, ht0, hv0, hd0, ⟨g1, t1, cs1, f1, p1, q1, hg1, ht1, hv1, hd1, ⟨g2, t2, cs2, f2, p2, q2, hg2, ht2, hv2, hd2, _, _⟩, _⟩, _⟩, _⟩ := h
  obtain rfl := Option.some.inj (gTab.symm.trans hg2)
  obtain rfl := Option.some.inj ((show (Tryd.prog.globals[2]?).map (·.type) = some 70 by kernel_rfl).symm.trans ht2)
  unfold Tab Lib.TabIs
  rw [hv2, ← Lib.cells_of_tab (n := 20) (e := 41) Tryd.underlying70 Tryd.underlying41 (by kernel_rfl) (by kernel_rfl) hd2]
set_option maxRecDepth 100000 in
theorem lifted (os : Os) (started : os.Started) (H : Type) (enc : TypeId × Value → H) :
    ReturnsInHanded {} Tryd.checked os 5 .any (fun w args => (Rows.utilKnownSpec.pre enc Tryd.prog Tryd.f5 Rows.utilKnownRow.domain false w args ∧ laidMetH Tryd.prog laidL w) ∧ sizedMet enc Tryd.prog Tryd.f5 (OpenSpec.ofChange Rows.utilKnownSpec) false w args) (Rows.utilKnownSpec.post enc Tryd.prog Tryd.f5 false true false false) := by
  refine returnsInHanded_of_change_and (C := Tryd.checked) (X := fun w _ => laidMetH Tryd.prog laidL w) (fun _ _ _ hh h => h.of_heap hh) own started (by kernel_rfl) Tryd.func5
    (ChangeSpec.witness_shaped (enc := enc) (C := Tryd.checked) (os := os) (X := fun w _ => laidMetH Tryd.prog laidL w) false (World.doorLaid Tryd.prog 400 os) #[] 8 rfl (World.shaped_of_RefB (by kernel_rfl) (by kernel_rfl)) (by kernel_rfl) (by kernel_rfl) (by kernel_rfl) (door_met os _)) ?_
  intro W base args ds gs before hval0 hW hcnd hsz0 hL _
  have hTb := tab_of_laid hL
  have hsz : (DataW.weightsEach Tryd.prog (Tryd.f5.params.toList ++ Rows.utilKnownSpec.plain.varTypes Tryd.prog) (ds ++ gs)).all (· ≤ reachBytes) = true := hsz0
  have hval : ∀ (j : Nat) t v, Tryd.f5.params[j]? = some t → args[j]? = some v → Value.okWide Tryd.prog W .any base t v := hval0
  have hW' := hW
  obtain ⟨p, q, hA0, hV, rfl, hfz, hnd⟩ := hW
  have hA : DataW.TrodAll enc Tryd.prog W 0 (fun _ => true) true Tryd.f5.params.toList args.toList ds p := hA0
  rw [Tryd.params5] at hA hval hsz
  obtain ⟨rfl, rfl, rfl⟩ := trodAll_none hA
  obtain ⟨rfl, rfl⟩ := trodVars_none hV
  clear hA0 hval0 hsz0 hsz
  refine (tocsinlaw12_UtilKnown.calls 60 true W hTb known rfl).mono fun e W' ⟨he, bel⟩ => ?_
  subst he
  exact ⟨_, rfl, _, _, _, _, _, [], hW', trodAll_mk1 (shut_bool Tryd.underlying4 _), trodAll_mk0, rfl, bel.frame _, fun h => by cases h⟩
theorem over : Rows.utilKnownRow.holds Tryd.pinned (OpenSpec.ofChange Rows.utilKnownSpec) :=
  OpenClaim.holds_of_wide 5 Tryd.f5 rfl rfl rfl rfl rfl rfl rfl ⟨rfl, rfl, rfl, rfl, rfl⟩ rfl rfl rfl rfl rfl (by kernel_rfl) Tryd.func5 (by kernel_rfl)
    (of_decide_eq_true (by kernel_rfl)) (by unfold Func.isWrapper; first | (rw [if_pos (by decide +kernel)]; kernel_rfl) | (rw [if_neg (by decide +kernel)]; exact ⟨rfl, rfl⟩))
    (fun os started H enc _ => lifted os started H enc)
end Go.Proofs.YteahinhmdeakfaaDoor.Pure
namespace Go.Proofs.YteahinhmdeakfaaDoor
open Go
/-- The tied card. -/
theorem utilKnownCard_holds : Rows.UtilKnownCardSaid :=
  Claim7.holds_tied_plain_at .later [] [.data, .data, .data] true (true, "48a580eb6154ba227cf72675b8cbe52c1496aae00cba3b164a538688a71db16a") false
    Pure.over (fun _ h => by cases h) (by kernel_rfl) (fun _ h => by cases h) utilKnown_row_tie rfl ⟨rfl, rfl⟩ (by kernel_rfl) rfl
    (fun f fn hf hfn => by
      obtain rfl : f = 5 := Option.some.inj ((show Tryd.prog.funcNamed "tocsin/tocsinlaw12.UtilKnown" = some 5 by kernel_rfl).symm.trans hf) |>.symm
      obtain rfl : fn = Tryd.f5 := (Option.some.inj (Tryd.func5.symm.trans hfn)).symm
      exact ⟨by kernel_rfl, fun j t ht => by
        rw [Tryd.params5] at ht
        have hm : t ∈ ([] : List TypeId) := by simpa using Array.mem_of_getElem? ht
        have hall : (([] : List TypeId).all fun u => !Tryd.prog.wantsStandIn u) = true := by kernel_rfl
        exact (show Tryd.prog.wantsStandIn t = false by simpa using List.all_eq_true.1 hall t hm)⟩)
    (by kernel_rfl)
end Go.Proofs.YteahinhmdeakfaaDoor
#print axioms Go.Proofs.YteahinhmdeakfaaDoor.utilKnownCard_holds
namespace Go.Proofs.YteahinhmdeakfaaDoor.Pure

end Go.Proofs.YteahinhmdeakfaaDoor.Pure
