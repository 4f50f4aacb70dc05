/- Contracts that the print takes as given (law24): job.Good, slices.ContainsFunc at job.All's own test, over the listed tables. -/
-- slim
import Derived.Test.YtobkfbkhcghaeaaGreatDoorPRvx0
import Derived.Test.YtobkfbkhcghaeaaGreatDoorPGdx1
namespace Go.Proofs.YtobkfbkhcghaeaaGreatDoor.PRv
open Go.RowKit Go.Proofs.YtobkfbkhcghaeaaGreatDoor.PRv Go.Proofs.YtobkfbkhcghaeaaGreatDoorW.PrintWords Go.Proofs.YtobkfbkhcghaeaaGreatDoorW.PrintLast Go.Proofs.YtobkfbkhcghaeaaGreatDoorW.PrintMore Go.Proofs.YtobkfbkhcghaeaaGreatDoor.PGd
set_option linter.unusedVariables false
set_option linter.unusedSimpArgs false

abbrev Tab := PGd.Tab
abbrev lim := PGd.lim
theorem tab_below {w w' : World} (h : Tab w) (hb : Below w.heap.size w w') : Tab w' := PGd.tab_below h hb
def goodJB (s : ByteArray) (r d b a v c : Int) : Bool := goodB s && decide (0 ≤ r ∧ r < d ∧ d ≤ 10000 ∧ 1 ≤ b ∧ b ≤ 1000 ∧ 1 ≤ a ∧ a ≤ 1000 ∧ 0 ≤ v ∧ v ≤ 1000000 ∧ 0 ≤ c ∧ c ≤ 100)
def goodJ (t : S45) : Bool := goodJB t.f0 t.f1 t.f2 t.f3 t.f4 t.f5 t.f6
theorem in_is (n a b : Int) : PGd.job_in.f n a b = some (decide (a ≤ n ∧ n ≤ b)) := by
 unfold PGd.job_in.f
 by_cases h : a ≤ n
 ·rw [if_pos h]; congr 1; rw [decide_eq_decide]; omega
 ·rw [if_neg h]; congr 1; symm; rw [decide_eq_false_iff_not]; omega
theorem goodJ_is (s : ByteArray) (r d b a v c : Int) (x : Bool) (hz : s.size ≤ lim) : PGd.job_Good.f 1 s r d b a v c x = some (goodJB s r d b a v c) := by
 unfold PGd.job_Good.f goodJB
 simp only [in_is, Option.bind_some, PGd.job_Good.j0, PGd.name_Good.f]
 rw [if_pos (show s.size ≤ PGd.lim from hz)]
 simp only [Option.bind_some]
 cases goodB s
 ·simp
 ·repeat' split
  all_goals (congr 1; simp_all)
  all_goals omega
theorem goodJ_any (t : S45) (hz : t.f0.size ≤ lim) (W : World) (hT : Tab W) : Calls Tryz.prog 40 #[.agg #[.string t.f0, .int .i64 t.f1, .int .i64 t.f2, .int .i64 t.f3, .int .i64 t.f4, .int .i64 t.f5, .int .i64 t.f6, .bool t.f7]] W fun e w' => e = .returned (.bool (goodJ t)) ∧ Below W.heap.size W w' :=
 PGd.job_Good.calls 1 t.f0 t.f1 t.f2 t.f3 t.f4 t.f5 t.f6 t.f7 _ W hT (goodJ_is _ _ _ _ _ _ _ _ hz)
def job_Good.f (a0_0 : ByteArray) (a0_1 a0_2 a0_3 a0_4 a0_5 a0_6 : Int) (a0_7 : Bool) : Option Bool := if a0_0.size ≤ lim then some (goodJB a0_0 a0_1 a0_2 a0_3 a0_4 a0_5 a0_6) else none
theorem job_Good.calls (a0_0 : ByteArray) (a0_1 a0_2 a0_3 a0_4 a0_5 a0_6 : Int) (a0_7 : Bool) (r : Bool) (w : World) (hTb : Tab w) (h : job_Good.f a0_0 a0_1 a0_2 a0_3 a0_4 a0_5 a0_6 a0_7 = some r) :
  Calls Tryz.prog 40 #[.agg #[.string a0_0, .int .i64 a0_1, .int .i64 a0_2, .int .i64 a0_3, .int .i64 a0_4, .int .i64 a0_5, .int .i64 a0_6, .bool a0_7]] w fun e w' => e = .returned (.bool r) ∧ Below w.heap.size w w' := by
 unfold job_Good.f at h
 split at h
 ·rename_i hz
  obtain rfl := Option.some.inj h
  exact goodJ_any ⟨a0_0, a0_1, a0_2, a0_3, a0_4, a0_5, a0_6, a0_7⟩ hz w hTb
 ·cases h
set_option maxHeartbeats 1000000
theorem badJ_any (t : S45) (hz : t.f0.size ≤ lim) (W : World) (hT : Tab W) : Calls Tryz.prog 39 #[.agg #[.string t.f0, .int .i64 t.f1, .int .i64 t.f2, .int .i64 t.f3, .int .i64 t.f4, .int .i64 t.f5, .int .i64 t.f6, .bool t.f7]] W fun e w' => e = .returned (.bool (!goodJ t)) ∧ Below W.heap.size W w' := by
 have HB := Aside0.mk (Below.refl W.heap.size W)
 have C := Aside0.mk (fun W' hT' => goodJ_any t hz W' hT')
 have HT := Aside0.mk hT
 clear hT
 go_enter Tryz.func39, Tryz.ntmps39
 go_wp2_with (first | (go_at_call 40; (with_reducible refine (C.out _ (tab_below HT.out (by repeat (first | (with_reducible first | exact HB.out | apply below_alloc | apply pw_below_drewN | apply below_drew1) | exact HB.out)))).mono ?_); rintro e w7 ⟨rfl, hb⟩; have n0_ := Aside0.mk (below_step (by repeat (first | (with_reducible first | exact HB.out | apply below_alloc | apply pw_below_drewN | apply below_drew1) | exact HB.out)) hb); clear HB; have HB := n0_; clear n0_ hb))
 go_ret
 exact ⟨rfl, (by repeat (first | (with_reducible first | exact HB.out | apply below_alloc | apply pw_below_drewN | apply below_drew1) | exact HB.out))⟩
def firstBad : List S45 → Nat → Int
 | [], _ => -1
 | t :: l, i => if goodJ t = true then firstBad l (i + 1) else (i : Int)
theorem index_any (A : Option Addr) (c : Nat) (l : List S45) (hz : ∀ t ∈ l, t.f0.size ≤ lim) (W : World) (hT : Tab W) (hr : Kd.C k45 W A l.length l) (hc : l.length ≤ c) (hm : l.length ≤ 9223372036854775807) :
  Calls Tryz.prog 59 #[.slice A l.length c, .func (.func 39) #[] #[]] W fun e w' => e = .returned (.int .i64 (firstBad l 0)) ∧ Below W.heap.size W w' := by
 have HB := Aside0.mk (Below.refl W.heap.size W)
 have HR := Aside0.mk hr
 have HT := Aside0.mk hT
 clear hT
 go_enter Tryz.func59, Tryz.ntmps59
 go_wp2
 go_loopw [8] (fun i wr => ∃ k : Int, 0 ≤ k ∧ k ≤ l.length ∧ i = .int .i64 k ∧ Aside0 (firstBad l 0 = firstBad (l.drop k.toNat) k.toNat) ∧ Aside0 (Below W.heap.size W wr)) (fun i _ => l.length - (intOf i).toNat)
 case atStart => exact ⟨0, by omega, by omega, rfl, ⟨rfl⟩, HB⟩
 case round =>
  obtain ⟨k, hk0, hk, rfl, HE, HB⟩ := hrel
  by_cases hlt : k < l.length
  ·obtain ⟨a, rfl, c0, c1, c2, c3, c4, c5, c6, c7⟩ := at_T45 (Kd.C_below HR.out HB.out) k (by omega) (by omega)
   have hdrop : l.drop k.toNat = rd_T45 l k :: l.drop (k.toNat + 1) := by
    rw [List.drop_eq_getElem_cons (by omega)]
    congr 1
    unfold rd_T45
    rw [List.getD_eq_getElem?_getD, List.getElem?_eq_getElem (by omega)]; rfl
   have hz1 : (rd_T45 l k).f0.size ≤ lim := hz _ (List.mem_of_mem_drop (i := k.toNat) (by rw [hdrop]; exact List.mem_cons_self ..))
   have he := HE.out
   rw [hdrop] at he
   clear HE hdrop
   generalize rd_T45 l k = t at *
   simp only [firstBad] at he
   cases hg : goodJ t
   ·rw [hg] at he
    simp only [Bool.false_eq_true, if_false, if_true] at he
    have HE := Aside0.mk he
    have CB := Aside0.mk (fun W' hT' => badJ_any t hz1 W' hT')
    rw [hg] at CB
    clear he hg
    go_wp2_with (first | (go_at_call 39; (with_reducible refine (CB.out _ (tab_below HT.out (by repeat (first | (with_reducible first | exact HB.out | apply below_alloc | apply pw_below_drewN | apply below_drew1) | exact HB.out)))).mono ?_); rintro e w7 ⟨rfl, hb⟩; have n0_ := Aside0.mk (below_step (by repeat (first | (with_reducible first | exact HB.out | apply below_alloc | apply pw_below_drewN | apply below_drew1) | exact HB.out)) hb); clear HB; have HB := n0_; clear n0_ hb))
    go_ret
    exact ⟨by rw [HE.out, Int.toNat_of_nonneg hk0]; rfl, (by repeat (first | (with_reducible first | exact HB.out | apply below_alloc | apply pw_below_drewN | apply below_drew1) | exact HB.out))⟩
   ·rw [hg] at he
    simp only [Bool.false_eq_true, if_false, if_true] at he
    have HE := Aside0.mk he
    have CB := Aside0.mk (fun W' hT' => badJ_any t hz1 W' hT')
    rw [hg] at CB
    clear he hg
    go_wp2_with (first | (go_at_call 39; (with_reducible refine (CB.out _ (tab_below HT.out (by repeat (first | (with_reducible first | exact HB.out | apply below_alloc | apply pw_below_drewN | apply below_drew1) | exact HB.out)))).mono ?_); rintro e w7 ⟨rfl, hb⟩; have n0_ := Aside0.mk (below_step (by repeat (first | (with_reducible first | exact HB.out | apply below_alloc | apply pw_below_drewN | apply below_drew1) | exact HB.out)) hb); clear HB; have HB := n0_; clear n0_ hb))
    exact ⟨⟨k + 1, by omega, by omega, by go_num, ⟨by rw [HE.out, show (k + 1).toNat = k.toNat + 1 by omega]⟩, ⟨(by repeat (first | (with_reducible first | exact HB.out | apply below_alloc | apply pw_below_drewN | apply below_drew1) | exact HB.out))⟩⟩, by simp [intOf]; omega⟩
  ·have he := HE.out
   rw [List.drop_of_length_le (by omega)] at he
   simp only [firstBad] at he
   have HE := Aside0.mk he
   clear he
   go_wp2
   go_ret
   exact ⟨by rw [HE.out]; rfl, (by repeat (first | (with_reducible first | exact HB.out | apply below_alloc | apply pw_below_drewN | apply below_drew1) | exact HB.out))⟩
theorem firstBad_ge : ∀ (l : List S45) (i : Nat), (0 ≤ firstBad l i) = (l.any fun t => !goodJ t) := by
 intro l
 induction l with
 | nil => intro i; simp [firstBad]
 | cons t l ih =>
  intro i
  simp only [firstBad]
  cases hg : goodJ t
  ·simp [hg]
  ·simp only [if_true, ih, List.any_cons, hg, Bool.not_true, Bool.false_or]
/-- Is there one that may not be? -/
def cfJob.f (l : List S45) (_ : Unit) : Option Bool := if l.all (fun t => decide (t.f0.size ≤ lim)) then some (l.any fun t => !goodJ t) else none
theorem cfJob.calls (A0 : Option Addr) (c0 : Nat) (l0 : List S45) (a1 : Unit) (r : Bool) (w : World) (hTb : Tab w) (hr0 : Kd.C k45 w A0 l0.length l0) (hc0 : l0.length ≤ c0) (h : cfJob.f l0 a1 = some r) :
  Calls Tryz.prog 38 #[.slice A0 l0.length c0, .func (.func 39) #[] #[]] w fun e w' => e = .returned (.bool r) ∧ Below w.heap.size w w' := by
 have HB := Aside0.mk (Below.refl w.heap.size w)
 have hlen : l0.length ≤ 9223372036854775807 := hr0.2.1
 have HX : Aside0 (decide (0 ≤ firstBad l0 0) = (l0.any fun t => !goodJ t)) := ⟨by rw [Bool.eq_iff_iff, decide_eq_true_iff, firstBad_ge l0 0]⟩
 have hz : ∀ t ∈ l0, t.f0.size ≤ lim := by
  unfold cfJob.f at h
  split at h
  ·rename_i hz; intro t ht; exact of_decide_eq_true (List.all_eq_true.1 hz t ht)
  ·cases h
 obtain rfl : (l0.any fun t => !goodJ t) = r := by
  unfold cfJob.f at h
  split at h
  ·exact Option.some.inj h
  ·cases h
 have CI := Aside0.mk (fun hr => index_any A0 c0 l0 hz w hTb hr hc0 hlen)
 have HR := Aside0.mk hr0
 clear h hr0 hz hTb
 go_enter Tryz.func38, Tryz.ntmps38
 go_wp2_with (first | (go_at_call 59; (with_reducible refine (CI.out HR.out).mono ?_); rintro e w7 ⟨rfl, hb⟩; have n0_ := Aside0.mk (below_step (by repeat (first | (with_reducible first | exact HB.out | apply below_alloc | apply pw_below_drewN | apply below_drew1) | exact HB.out)) hb); clear HB; have HB := n0_; clear n0_ hb))
 go_ret
 exact ⟨by rw [← HX.out]; rfl, (by repeat (first | (with_reducible first | exact HB.out | apply below_alloc | apply pw_below_drewN | apply below_drew1) | exact HB.out))⟩

end Go.Proofs.YtobkfbkhcghaeaaGreatDoor.PRv
