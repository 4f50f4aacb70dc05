/- Whether a list of tasks holds one that may not be: the contract of slices.ContainsFunc at demand.Frame's own test. -/
import Derived.Test.YtkjboaepeecinaaPSkx0
import Derived.Test.YtkjboaepeecinaaPGdx1
namespace Go.Proofs.Ytkjboaepeecinaa.PSk
open Go.RowKit Go.Proofs.Ytkjboaepeecinaa.PSk Go.Proofs.YtkjboaepeecinaaW.PrintWords Go.Proofs.YtkjboaepeecinaaW.PrintLast Go.Proofs.YtkjboaepeecinaaW.PrintMore Go.Proofs.Ytkjboaepeecinaa.PGd
set_option linter.unusedVariables false
set_option linter.unusedSimpArgs false

def goodTB (p n s : Int) : Bool := decide (1 ≤ p ∧ p ≤ 10000 ∧ 1 ≤ n ∧ n ≤ 1000 ∧ (s = 0 ∨ 2 ≤ s ∧ s ≤ 1000))
theorem goodT_is (p n s : Int) : demand_Good.f p n s = some (goodTB p n s) := by
  unfold demand_Good.f goodTB
  repeat' split
  all_goals (congr 1; first | rfl | (rw [decide_eq_decide]; omega) | (symm; rw [decide_eq_true_iff]; omega) | (symm; rw [decide_eq_false_iff_not]; omega))
theorem goodT_any (p n s : Int) (W : World) : Calls Try.prog 29 #[.agg #[.int .i64 p, .int .i64 n, .int .i64 s]] W fun e w' => e = .returned (.bool (goodTB p n s)) ∧ Below W.heap.size W w' := demand_Good.calls p n s _ W (goodT_is p n s)
set_option maxHeartbeats 1000000
theorem badT_any (p n s : Int) (W : World) : Calls Try.prog 28 #[.agg #[.int .i64 p, .int .i64 n, .int .i64 s]] W fun e w' => e = .returned (.bool (!goodTB p n s)) ∧ Below W.heap.size W w' := by
  have HB := Aside0.mk (Below.refl W.heap.size W)
  go_enter Try.func28, Try.ntmps28
  go_wp2_with (first | (go_at_call 29; (with_reducible refine (goodT_any _ _ _ _).mono ?_); rintro e w7 ⟨rfl, hb⟩; have n0_ := Aside0.mk (below_step (by repeat (first | (with_reducible first | exact HB.out | apply below_alloc | apply pw_below_drewN | apply below_drew1) | exact HB.out)) hb); clear HB; have HB := n0_; clear n0_ hb))
  go_ret
  exact ⟨rfl, (by repeat (first | (with_reducible first | exact HB.out | apply below_alloc | apply pw_below_drewN | apply below_drew1) | exact HB.out))⟩
def firstBad : List S35 → Nat → Int
  | [], _ => -1
  | t :: l, i => if goodTB t.f0 t.f1 t.f2 = true then firstBad l (i + 1) else (i : Int)
theorem index_any (A : Option Addr) (c : Nat) (l : List S35) (W : World) (hr : Kd.C k35 W A l.length l) (hc : l.length ≤ c) (hm : l.length ≤ 9223372036854775807) :
    Calls Try.prog 36 #[.slice A l.length c, .func (.func 28) #[] #[]] W fun e w' => e = .returned (.int .i64 (firstBad l 0)) ∧ Below W.heap.size W w' := by
  have HB := Aside0.mk (Below.refl W.heap.size W)
  have HR := Aside0.mk hr
  go_enter Try.func36, Try.ntmps36
  go_wp2
  go_loopw [8] (fun i wr => ∃ k : Int, 0 ≤ k ∧ k ≤ l.length ∧ i = .int .i64 k ∧ Aside0 (firstBad l 0 = firstBad (l.drop k.toNat) k.toNat) ∧ Aside0 (Below W.heap.size W wr)) (fun i _ => l.length - (intOf i).toNat)
  case atStart => exact ⟨0, by omega, by omega, rfl, ⟨rfl⟩, HB⟩
  case round =>
    obtain ⟨k, hk0, hk, rfl, HE, HB⟩ := hrel
    by_cases hlt : k < l.length
    · obtain ⟨a, rfl, c0, c1, c2⟩ := at_T35 (Kd.C_below HR.out HB.out) k (by omega) (by omega)
      have hdrop : l.drop k.toNat = rd_T35 l k :: l.drop (k.toNat + 1) := by
        rw [List.drop_eq_getElem_cons (by omega)]
        congr 1
        unfold rd_T35
        rw [List.getD_eq_getElem?_getD, List.getElem?_eq_getElem (by omega)]; rfl
      have he := HE.out
      rw [hdrop] at he
      clear HE hdrop
      generalize rd_T35 l k = t at *
      simp only [firstBad] at he
      cases hg : goodTB t.f0 t.f1 t.f2
      · rw [hg] at he
        simp only [Bool.false_eq_true, if_false, if_true] at he
        have HE := Aside0.mk he
        have CB := Aside0.mk (badT_any t.f0 t.f1 t.f2)
        rw [hg] at CB
        clear he hg
        go_wp2_with (first | (go_at_call 28; (with_reducible refine (CB.out _).mono ?_); rintro e w7 ⟨rfl, hb⟩; have n0_ := Aside0.mk (below_step (by repeat (first | (with_reducible first | exact HB.out | apply below_alloc | apply pw_below_drewN | apply below_drew1) | exact HB.out)) hb); clear HB; have HB := n0_; clear n0_ hb))
        go_ret
        exact ⟨by rw [HE.out, Int.toNat_of_nonneg hk0]; rfl, (by repeat (first | (with_reducible first | exact HB.out | apply below_alloc | apply pw_below_drewN | apply below_drew1) | exact HB.out))⟩
      · rw [hg] at he
        simp only [Bool.false_eq_true, if_false, if_true] at he
        have HE := Aside0.mk he
        have CB := Aside0.mk (badT_any t.f0 t.f1 t.f2)
        rw [hg] at CB
        clear he hg
        go_wp2_with (first | (go_at_call 28; (with_reducible refine (CB.out _).mono ?_); rintro e w7 ⟨rfl, hb⟩; have n0_ := Aside0.mk (below_step (by repeat (first | (with_reducible first | exact HB.out | apply below_alloc | apply pw_below_drewN | apply below_drew1) | exact HB.out)) hb); clear HB; have HB := n0_; clear n0_ hb))
        exact ⟨⟨k + 1, by omega, by omega, by go_num, ⟨by rw [HE.out, show (k + 1).toNat = k.toNat + 1 by omega]⟩, ⟨(by repeat (first | (with_reducible first | exact HB.out | apply below_alloc | apply pw_below_drewN | apply below_drew1) | exact HB.out))⟩⟩, by simp [intOf]; omega⟩
    · have he := HE.out
      rw [List.drop_of_length_le (by omega)] at he
      simp only [firstBad] at he
      have HE := Aside0.mk he
      clear he
      go_wp2
      go_ret
      exact ⟨by rw [HE.out]; rfl, (by repeat (first | (with_reducible first | exact HB.out | apply below_alloc | apply pw_below_drewN | apply below_drew1) | exact HB.out))⟩
theorem firstBad_ge : ∀ (l : List S35) (i : Nat), (0 ≤ firstBad l i) = (l.any fun t => !goodTB t.f0 t.f1 t.f2) := by
  intro l
  induction l with
  | nil => intro i; simp [firstBad]
  | cons t l ih =>
    intro i
    simp only [firstBad]
    cases hg : goodTB t.f0 t.f1 t.f2
    · simp [hg]
    · simp only [if_true, ih, List.any_cons, hg, Bool.not_true, Bool.false_or]
/-- Is there one that may not be? -/
def cfTask.f (l : List S35) (_ : Unit) : Option Bool := some (l.any fun t => !goodTB t.f0 t.f1 t.f2)
theorem cfTask.calls (A0 : Option Addr) (c0 : Nat) (l0 : List S35) (a1 : Unit) (r : Bool) (w : World) (hr0 : Kd.C k35 w A0 l0.length l0) (hc0 : l0.length ≤ c0) (h : cfTask.f l0 a1 = some r) :
    Calls Try.prog 27 #[.slice A0 l0.length c0, .func (.func 28) #[] #[]] w fun e w' => e = .returned (.bool r) ∧ Below w.heap.size w w' := by
  have HB := Aside0.mk (Below.refl w.heap.size w)
  have hlen : l0.length ≤ 9223372036854775807 := hr0.2.1
  have HX : Aside0 (decide (0 ≤ firstBad l0 0) = (l0.any fun t => !goodTB t.f0 t.f1 t.f2)) := ⟨by rw [Bool.eq_iff_iff, decide_eq_true_iff, firstBad_ge l0 0]⟩
  obtain rfl : (l0.any fun t => !goodTB t.f0 t.f1 t.f2) = r := Option.some.inj h
  have CI := Aside0.mk (fun hr => index_any A0 c0 l0 w hr hc0 hlen)
  have HR := Aside0.mk hr0
  clear h hr0
  go_enter Try.func27, Try.ntmps27
  go_wp2_with (first | (go_at_call 36; (with_reducible refine (CI.out HR.out).mono ?_); rintro e w7 ⟨rfl, hb⟩; have n0_ := Aside0.mk (below_step (by repeat (first | (with_reducible first | exact HB.out | apply below_alloc | apply pw_below_drewN | apply below_drew1) | exact HB.out)) hb); clear HB; have HB := n0_; clear n0_ hb))
  go_ret
  exact ⟨by rw [← HX.out]; rfl, (by repeat (first | (with_reducible first | exact HB.out | apply below_alloc | apply pw_below_drewN | apply below_drew1) | exact HB.out))⟩

end Go.Proofs.Ytkjboaepeecinaa.PSk
