/- What jobs and traces are, in plain words (law24): what job.All, job.Work, trace.Good, Ran, DoneAt, MetBy, Value compute. 
-- slim What job.End, edf.Meets and rival.met compute, in plain words (law24). 
-- slim slices.Clone of a row of numbers; edf.Run is edf.run at job.Work. 
-- slim rival.kept: the jobs that are kept, by value. 
-- slim rival.Greedy in plain words (law24). 
-- slim rival.Greedy, walked; in print's form. 
-- slim -/
import Derived.Test.YtobkfbkhcghaeaaGreatDoorPRvx5
import Derived.Test.YtobkfbkhcghaeaaGreatDoorRvU
import Derived.Test.YtobkfbkhcghaeaaGreatDoorRvA
import Derived.Lib.SliceRun
import Derived.Sort.OwnSortedInts
namespace Go.Proofs.YtobkfbkhcghaeaaGreatDoor.PRv
open Go.RowKit Go.Proofs.YtobkfbkhcghaeaaGreatDoor.PRv Go.Proofs.YtobkfbkhcghaeaaGreatDoorW.PrintWords Go.Proofs.YtobkfbkhcghaeaaGreatDoorW.PrintLast Go.Proofs.YtobkfbkhcghaeaaGreatDoorW.PrintMore 
set_option linter.unusedVariables false
set_option linter.unusedSimpArgs false

theorem w64 (x : Int) (h0 : -9223372036854775808 ≤ x) (h1 : x ≤ 9223372036854775807) : wrap64 x = x := by unfold wrap64; omega
theorem rd_at (t : List Int) (p : Nat) (h : p < t.length) : t.drop p = rd t (p : Int) :: t.drop (p + 1) := by
 rw [List.drop_eq_getElem_cons h]
 unfold rd
 rw [show ((p : Int).toNat) = p by omega, List.getD_eq_getElem?_getD, List.getElem?_eq_getElem h]
 rfl
theorem rd_mem (t : List Int) (i : Int) (h0 : 0 ≤ i) (h : i < t.length) : rd t i ∈ t := by
 unfold rd
 rw [List.getD_eq_getElem?_getD, List.getElem?_eq_getElem (by omega)]
 exact List.getElem_mem _
theorem rdJ_mem (l : List S45) (i : Int) (h0 : 0 ≤ i) (h : i < l.length) : rd_T45 l i ∈ l := by
 unfold rd_T45
 rw [List.getD_eq_getElem?_getD, List.getElem?_eq_getElem (by omega)]
 exact List.getElem_mem _
theorem rd_set (t : List Int) (i : Int) (v : Int) (h0 : 0 ≤ i) (h : i < t.length) : rd (t.set i.toNat v) i = v := by
 unfold rd
 rw [List.getD_eq_getElem?_getD, List.getElem?_set_self (by omega)]
 rfl
abbrev Jb := S45
def okN (l : List Jb) : Prop := ∀ t ∈ l, t.f0.size ≤ 100
def allJ (l : List Jb) : Bool := decide (l.length ≤ 200) && l.all goodJ
theorem All_is (l : List Jb) (h : okN l) : job_All.f l = some (allJ l) := by
 unfold job_All.f allJ
 have e : cfJob.f l () = some (l.any fun t => !goodJ t) := by
  unfold cfJob.f
  rw [if_pos]
  rw [List.all_eq_true]
  intro t ht
  have := h t ht
  rw [decide_eq_true_iff]
  show _ ≤ 4398046511104
  omega
 by_cases c : l.length ≤ 200
 ·rw [if_pos (by omega), e, decide_eq_true c]
  simp only [Option.bind_some, Bool.true_and]
  congr 1
  rw [List.all_eq_not_any_not]
 ·rw [if_neg (by omega), decide_eq_false c]
  rfl
def workJ (t : Jb) : Int := if goodJ t = true then (if t.f4 ≤ t.f3 then t.f4 else t.f3 + t.f6) else 0
theorem goodJ_b {t : Jb} (h : goodJ t = true) : 0 ≤ t.f1 ∧ t.f1 < t.f2 ∧ t.f2 ≤ 10000 ∧ 1 ≤ t.f3 ∧ t.f3 ≤ 1000 ∧ 1 ≤ t.f4 ∧ t.f4 ≤ 1000 ∧ 0 ≤ t.f5 ∧ t.f5 ≤ 1000000 ∧ 0 ≤ t.f6 ∧ t.f6 ≤ 100 := by
 unfold goodJ goodJB at h
 rw [Bool.and_eq_true, decide_eq_true_iff] at h
 exact h.2
theorem workJ_b (t : Jb) : 0 ≤ workJ t ∧ workJ t ≤ 1100 := by
 unfold workJ
 split
 ·rename_i h
  have := goodJ_b h
  split <;> omega
 ·omega
theorem workJ_pos {t : Jb} (h : goodJ t = true) : 1 ≤ workJ t := by
 unfold workJ
 rw [if_pos h]
 have := goodJ_b h
 split <;> omega
theorem goodf_is (t : Jb) (h : t.f0.size ≤ 100) : job_Good.f t.f0 t.f1 t.f2 t.f3 t.f4 t.f5 t.f6 t.f7 = some (goodJ t) := by
 unfold job_Good.f
 rw [if_pos (show t.f0.size ≤ lim from Nat.le_trans h (by decide))]
 rfl
theorem Work_is (t : Jb) (h : t.f0.size ≤ 100) : job_Work.f t.f0 t.f1 t.f2 t.f3 t.f4 t.f5 t.f6 t.f7 = some (workJ t) := by
 unfold job_Work.f workJ
 rw [goodf_is t h]
 simp only [Option.bind_some]
 cases hg : goodJ t
 ·simp
 ·have := goodJ_b hg
  simp only [if_true, job_Runs.f, Option.bind_some, decide_eq_true_eq]
  split
  ·rfl
  ·rw [w64 _ (by omega) (by omega)]
-- may a trace be?
def goodL (l : List Jb) : List Int → List Int → Nat → Bool
 | _, [], _ => true
 | ran, i :: t, k => if i = -1 then goodL l ran t (k + 1) else
   (decide (0 ≤ i) && decide (i < l.length) && decide ((rd_T45 l i).f1 ≤ k) && decide ((k : Int) < (rd_T45 l i).f2) && decide (rd ran i < workJ (rd_T45 l i))) && goodL l (ran.set i.toNat (rd ran i + 1)) t (k + 1)
theorem Good_l0 (l : List Jb) (hl : okN l) (t : List Int) (hb : t.length ≤ 1000000) : ∀ d p k ran, p + d = t.length → d < k → ran.length = l.length → (∀ x ∈ ran, 0 ≤ x) →
  trace_Good.l0 k l ran t t.length p = some (goodL l ran (t.drop p) p) := by
 intro d
 induction d with
 | zero =>
  intro p k ran hp hk hr hn
  obtain ⟨k, rfl⟩ : ∃ k', k = k' + 1 := ⟨k - 1, by omega⟩
  unfold trace_Good.l0
  rw [if_neg (by omega), List.drop_of_length_le (by omega)]
  rfl
 | succ d ih =>
  intro p k ran hp hk hr hn
  obtain ⟨k, rfl⟩ : ∃ k', k = k' + 1 := ⟨k - 1, by omega⟩
  unfold trace_Good.l0
  rw [rd_at t p (by omega), if_pos (by omega), if_pos (by omega), if_pos (by omega), w64 ((p : Int) + 1) (by omega) (by omega), show (p : Int) + 1 = ((p + 1 : Nat) : Int) by omega]
  unfold goodL
  generalize rd t (p : Int) = i
  by_cases c1 : i = -1
  ·rw [if_pos c1, if_pos c1]
   exact ih (p + 1) k ran (by omega) (by omega) hr hn
  rw [if_neg c1, if_neg c1]
  by_cases c2 : i < 0
  ·rw [if_pos c2, decide_eq_false (by omega : ¬ 0 ≤ i)]; rfl
  rw [if_neg c2, decide_eq_true (by omega : 0 ≤ i)]
  by_cases c3 : i ≥ l.length
  ·rw [if_pos c3, decide_eq_false (by omega : ¬ i < l.length)]; rfl
  rw [if_neg c3, if_pos (by omega), if_pos (by omega), decide_eq_true (by omega : i < l.length)]
  by_cases c4 : (p : Int) < (rd_T45 l i).f1
  ·rw [if_pos c4, decide_eq_false (by omega : ¬ (rd_T45 l i).f1 ≤ p)]; rfl
  rw [if_neg c4, decide_eq_true (by omega : (rd_T45 l i).f1 ≤ p)]
  by_cases c5 : (p : Int) ≥ (rd_T45 l i).f2
  ·rw [if_pos c5, decide_eq_false (by omega : ¬ (p : Int) < (rd_T45 l i).f2)]; rfl
  rw [if_neg c5, decide_eq_true (by omega : (p : Int) < (rd_T45 l i).f2), if_pos (by omega), Work_is _ (hl _ (rdJ_mem l i (by omega) (by omega)))]
  simp only [Option.bind_some, Bool.true_and]
  have hw := workJ_b (rd_T45 l i)
  have h0 := hn _ (rd_mem ran i (by omega) (by omega))
  by_cases c6 : rd ran i ≥ workJ (rd_T45 l i)
  ·rw [if_pos c6, decide_eq_false (by omega)]; rfl
  rw [if_neg c6, decide_eq_true (by omega), w64 _ (by omega) (by omega), Bool.true_and]
  refine ih (p + 1) k _ (by omega) (by omega) (by simp [hr]) ?_
  intro x hx
  rcases List.mem_or_eq_of_mem_set hx with h | h
  ·exact hn x h
  ·omega
def goodT (l : List Jb) (t : List Int) : Bool := allJ l && decide (t.length ≤ 10000) && goodL l (List.replicate l.length 0) t 0
theorem Good_is (l : List Jb) (hl : okN l) (t : List Int) (k : Nat) (hb : t.length ≤ 1000000) (hk : t.length + 3 ≤ k) : trace_Good.f k l t = some (goodT l t) := by
 obtain ⟨k, rfl⟩ : ∃ k', k = k' + 1 := ⟨k - 1, by omega⟩
 unfold trace_Good.f goodT
 rw [All_is l hl]
 simp only [Option.bind_some]
 cases ha : allJ l
 ·simp [trace_Good.j0]
 have hn : l.length ≤ 200 := by
  unfold allJ at ha
  rw [Bool.and_eq_true, decide_eq_true_iff] at ha
  exact ha.1
 rw [if_pos rfl]
 unfold trace_Good.j0
 dsimp only
 by_cases c : t.length ≤ 10000
 ·rw [decide_eq_false (by omega : ¬ (t.length : Int) > 10000), decide_eq_true c, if_neg (by simp), if_pos (by omega), if_pos (by omega), Int.toNat_natCast]
  have := Good_l0 l hl t hb t.length 0 k (List.replicate l.length 0) (by omega) (by omega) (by simp) (fun x hx => by have := List.eq_of_mem_replicate hx; omega)
  rw [Int.natCast_zero] at this
  rw [this, List.drop_zero]
  rfl
 ·rw [decide_eq_true (by omega : (t.length : Int) > 10000), decide_eq_false c]
  rfl
-- how often a number stands in a row
def cntN (i : Int) (t : List Int) : Nat := t.countP fun x => decide (x = i)
theorem Ran_l0 (i : Int) (t : List Int) (hb : t.length ≤ 1000000) : ∀ d p k (n : Nat), p + d = t.length → d < k → n ≤ p →
  trace_Ran.l0 k i n t t.length p = some ((n + cntN i (t.drop p) : Nat) : Int) := by
 intro d
 induction d with
 | zero =>
  intro p k n hp hk hn
  obtain ⟨k, rfl⟩ : ∃ k', k = k' + 1 := ⟨k - 1, by omega⟩
  unfold trace_Ran.l0
  rw [if_neg (by omega), List.drop_of_length_le (by omega)]
  rfl
 | succ d ih =>
  intro p k n hp hk hn
  obtain ⟨k, rfl⟩ : ∃ k', k = k' + 1 := ⟨k - 1, by omega⟩
  unfold trace_Ran.l0
  rw [rd_at t p (by omega), if_pos (by omega), if_pos (by omega), if_pos (by omega), w64 ((p : Int) + 1) (by omega) (by omega), show (p : Int) + 1 = ((p + 1 : Nat) : Int) by omega]
  unfold cntN
  rw [List.countP_cons]
  by_cases c : rd t (p : Int) = i
  ·rw [if_pos c, w64 _ (by omega) (by omega), show (n : Int) + 1 = ((n + 1 : Nat) : Int) by omega, ih (p + 1) k (n + 1) (by omega) (by omega) (by omega), if_pos (by simpa using c)]
   unfold cntN
   congr 2
   omega
  ·rw [if_neg c, ih (p + 1) k n (by omega) (by omega) (by omega), if_neg (by simpa using c)]
   rfl
theorem Ran_is (i : Int) (t : List Int) (k : Nat) (hb : t.length ≤ 1000000) (hk : t.length < k) : trace_Ran.f k t i = some (cntN i t : Int) := by
 have := Ran_l0 i t hb t.length 0 k 0 (by omega) hk (by omega)
 rw [Nat.zero_add, List.drop_zero] at this
 exact this
def doneL (i : Int) : Int → List Int → Nat → Option Nat
 | _, [], _ => none
 | left, x :: t, k => if x = i then (if left - 1 = 0 then some (k + 1) else doneL i (left - 1) t (k + 1)) else (if left = 0 then some (k + 1) else doneL i left t (k + 1))
def resD : Option Nat → Int × Bool
 | none => (0, false)
 | some a => ((a : Int), true)
theorem DoneAt_l0 (i : Int) (t : List Int) (hb : t.length ≤ 1000000) : ∀ d p k (left : Int), p + d = t.length → d < k → 1 ≤ left → left ≤ 2000 →
  trace_DoneAt.l0 k i left t t.length p = some (resD (doneL i left (t.drop p) p)) := by
 intro d
 induction d with
 | zero =>
  intro p k left hp hk _ _
  obtain ⟨k, rfl⟩ : ∃ k', k = k' + 1 := ⟨k - 1, by omega⟩
  unfold trace_DoneAt.l0
  rw [if_neg (by omega), List.drop_of_length_le (by omega)]
  rfl
 | succ d ih =>
  intro p k left hp hk h0 h1
  obtain ⟨k, rfl⟩ : ∃ k', k = k' + 1 := ⟨k - 1, by omega⟩
  unfold trace_DoneAt.l0
  rw [rd_at t p (by omega), if_pos (by omega), if_pos (by omega), if_pos (by omega), w64 ((p : Int) + 1) (by omega) (by omega), show (p : Int) + 1 = ((p + 1 : Nat) : Int) by omega, w64 (left - 1) (by omega) (by omega)]
  unfold doneL
  by_cases c : rd t (p : Int) = i
  ·rw [if_pos c, if_pos c]
   by_cases c2 : left - 1 = 0
   ·rw [if_pos c2, if_pos c2]; rfl
   ·rw [if_neg c2, if_neg c2]
    exact ih (p + 1) k (left - 1) (by omega) (by omega) (by omega) (by omega)
  ·rw [if_neg c, if_neg c]
   by_cases c2 : left = 0
   ·rw [if_pos c2, if_pos c2]; rfl
   ·rw [if_neg c2, if_neg c2]
    exact ih (p + 1) k left (by omega) (by omega) (by omega) (by omega)
def doneJ (l : List Jb) (t : List Int) (i : Int) : Option Nat := if 0 ≤ i ∧ i < l.length ∧ allJ l = true then doneL i (workJ (rd_T45 l i)) t 0 else none
theorem allJ_at {l : List Jb} (h : allJ l = true) (i : Int) (h0 : 0 ≤ i) (h1 : i < l.length) : goodJ (rd_T45 l i) = true := by
 unfold allJ at h
 rw [Bool.and_eq_true, List.all_eq_true] at h
 exact h.2 _ (rdJ_mem l i h0 h1)
theorem DoneAt_is (l : List Jb) (hl : okN l) (t : List Int) (i : Int) (k : Nat) (hb : t.length ≤ 1000000) (hk : t.length + 2 ≤ k) : trace_DoneAt.f k l t i = some (resD (doneJ l t i)) := by
 obtain ⟨k, rfl⟩ : ∃ k', k = k' + 1 := ⟨k - 1, by omega⟩
 unfold trace_DoneAt.f doneJ
 by_cases c0 : i < 0
 ·rw [if_pos c0, if_neg (by omega)]
  unfold trace_DoneAt.j0
  rfl
 rw [if_neg c0]
 by_cases c1 : i ≥ l.length
 ·rw [if_pos c1, if_neg (by omega)]
  unfold trace_DoneAt.j0
  rfl
 rw [if_neg c1, All_is l hl]
 simp only [Option.bind_some]
 cases ha : allJ l
 ·rw [if_neg (by simp)]
  unfold trace_DoneAt.j0
  rfl
 rw [if_pos ⟨by omega, by omega, rfl⟩]
 unfold trace_DoneAt.j0
 dsimp only
 rw [if_neg (by simp), if_pos (by omega), if_pos (by omega), Work_is _ (hl _ (rdJ_mem l i (by omega) (by omega)))]
 simp only [Option.bind_some]
 have hw := workJ_b (rd_T45 l i)
 have hp := workJ_pos (allJ_at ha i (by omega) (by omega))
 have := DoneAt_l0 i t hb t.length 0 k (workJ (rd_T45 l i)) (by omega) (by omega) hp (by omega)
 rw [Int.natCast_zero] at this
 rw [this, List.drop_zero]
def metJ (l : List Jb) (t : List Int) (i : Int) : Bool := match doneJ l t i with
 | none => false
 | some a => decide ((a : Int) ≤ (rd_T45 l i).f2) && decide ((rd_T45 l i).f4 ≤ (rd_T45 l i).f3)
theorem doneJ_in {l : List Jb} {t : List Int} {i : Int} {a : Nat} (h : doneJ l t i = some a) : 0 ≤ i ∧ i < l.length ∧ allJ l = true := by
 unfold doneJ at h
 split at h
 ·assumption
 ·cases h
theorem MetBy_is (l : List Jb) (hl : okN l) (t : List Int) (i : Int) (k : Nat) (hb : t.length ≤ 1000000) (hk : t.length + 2 ≤ k) : trace_MetBy.f k l t i = some (metJ l t i) := by
 unfold trace_MetBy.f metJ
 rw [DoneAt_is l hl t i k hb hk]
 simp only [Option.bind_some]
 cases hd : doneJ l t i with
 | none => rfl
 | some a =>
  have hi := doneJ_in hd
  rw [if_pos (show (resD (some a)).2 = true from rfl), if_pos (by omega), if_pos (by omega)]
  by_cases c : (resD (some a)).1 ≤ (rd_T45 l i).f2
  ·rw [if_pos c]
   have e := decide_eq_true (show (a : Int) ≤ (rd_T45 l i).f2 from c)
   dsimp only
   rw [e]
   rfl
  ·rw [if_neg c]
   have e := decide_eq_false (show ¬ (a : Int) ≤ (rd_T45 l i).f2 from c)
   dsimp only
   rw [e]
   rfl
-- what a trace earns
def valL (l : List Jb) (met : Int → Bool) : Nat → Nat → Int → Int
 | 0, _, acc => acc
 | d + 1, i, acc => valL l met d (i + 1) (if met i = true then wrap64 (acc + (rd_T45 l i).f5) else acc)
theorem Value_l0 (l : List Jb) (hl : okN l) (hn : l.length ≤ 1000000) (t : List Int) (hb : t.length ≤ 1000000) : ∀ d i k (acc : Int), i + d = l.length → d + t.length + 2 < k →
  trace_Value.l0 k l t acc l.length i = some (valL l (metJ l t) d i acc) := by
 intro d
 induction d with
 | zero =>
  intro i k acc hp hk
  obtain ⟨k, rfl⟩ : ∃ k', k = k' + 1 := ⟨k - 1, by omega⟩
  unfold trace_Value.l0
  rw [if_neg (by omega)]
  rfl
 | succ d ih =>
  intro i k acc hp hk
  obtain ⟨k, rfl⟩ : ∃ k', k = k' + 1 := ⟨k - 1, by omega⟩
  unfold trace_Value.l0 valL
  rw [if_pos (by omega), MetBy_is l hl t i k hb (by omega)]
  simp only [Option.bind_some]
  rw [w64 ((i : Int) + 1) (by omega) (by omega), show (i : Int) + 1 = ((i + 1 : Nat) : Int) by omega]
  cases metJ l t i
  ·rw [if_neg (by simp), if_neg (by simp)]
   exact ih (i + 1) k acc (by omega) (by omega)
  ·rw [if_pos rfl, if_pos (by omega), if_pos (by omega), if_pos rfl]
   exact ih (i + 1) k _ (by omega) (by omega)
def valJ (l : List Jb) (t : List Int) : Int := valL l (metJ l t) l.length 0 0
theorem Value_is (l : List Jb) (hl : okN l) (hn : l.length ≤ 1000000) (t : List Int) (hb : t.length ≤ 1000000) (k : Nat) (hk : l.length + t.length + 2 < k) : trace_Value.f k l t = some (valJ l t) := by
 have := Value_l0 l hl hn t hb l.length 0 k 0 (by omega) hk
 exact this
-- how often another runs at once

end Go.Proofs.YtobkfbkhcghaeaaGreatDoor.PRv
namespace Go.Proofs.YtobkfbkhcghaeaaGreatDoor.PRv
open Go.RowKit Go.Proofs.YtobkfbkhcghaeaaGreatDoor.PRv Go.Proofs.YtobkfbkhcghaeaaGreatDoorW.PrintWords Go.Proofs.YtobkfbkhcghaeaaGreatDoorW.PrintLast Go.Proofs.YtobkfbkhcghaeaaGreatDoorW.PrintMore 
set_option linter.unusedVariables false
set_option linter.unusedSimpArgs false

def endN : List Jb → Int → Int
 | [], n => n
 | x :: t, n => endN t (mx n x.f2)
theorem dropJ (l : List Jb) (p : Nat) (h : p < l.length) : l.drop p = rd_T45 l (p : Int) :: l.drop (p + 1) := by
 rw [List.drop_eq_getElem_cons h]
 unfold rd_T45
 rw [show ((p : Int).toNat) = p by omega, List.getD_eq_getElem?_getD, List.getElem?_eq_getElem h]
 rfl
theorem End_l0 (l : List Jb) (hn : l.length ≤ 1000000) : ∀ d p k n, p + d = l.length → d < k → job_End.l0 k n l l.length p = some (endN (l.drop p) n) := by
 intro d
 induction d with
 | zero =>
  intro p k n hp hk
  obtain ⟨k, rfl⟩ : ∃ k', k = k' + 1 := ⟨k - 1, by omega⟩
  unfold job_End.l0
  rw [if_neg (by omega), List.drop_of_length_le (by omega)]
  rfl
 | succ d ih =>
  intro p k n hp hk
  obtain ⟨k, rfl⟩ : ∃ k', k = k' + 1 := ⟨k - 1, by omega⟩
  unfold job_End.l0
  rw [if_pos (by omega), if_pos (by omega), if_pos (by omega), w64 ((p : Int) + 1) (by omega) (by omega), show (p : Int) + 1 = ((p + 1 : Nat) : Int) by omega, ih (p + 1) k _ (by omega) (by omega), dropJ l p (by omega)]
  rfl
def endJ (l : List Jb) : Int := if allJ l = true then endN l 0 else 0
theorem End_is (l : List Jb) (hl : okN l) (hn : l.length ≤ 1000000) (k : Nat) (hk : l.length < k) : job_End.f k l = some (endJ l) := by
 unfold job_End.f endJ
 rw [All_is l hl, Option.bind_some]
 cases allJ l
 ·rfl
 ·rw [if_pos rfl, if_pos rfl]
  have := End_l0 l hn l.length 0 k 0 (by omega) hk
  rw [List.drop_zero] at this
  exact this
theorem mx_is (a b : Int) : mx a b = if a ≤ b then b else a := by
 unfold mx
 repeat' split
 all_goals omega
theorem endN_ge : ∀ (l : List Jb) (n : Int), n ≤ endN l n ∧ ∀ x ∈ l, x.f2 ≤ endN l n
 | [], n => ⟨Int.le_refl _, fun _ h => by cases h⟩
 | x :: t, n => by
  have ih := endN_ge t (mx n x.f2)
  have hm := mx_is n x.f2
  simp only [endN]
  refine ⟨by split at hm <;> omega, fun y hy => ?_⟩
  rcases List.mem_cons.1 hy with rfl | hy
  ·split at hm <;> omega
  ·exact ih.2 y hy
theorem endN_le (b : Int) : ∀ (l : List Jb) (n : Int), n ≤ b → (∀ x ∈ l, x.f2 ≤ b) → endN l n ≤ b
 | [], _, h, _ => h
 | x :: t, n, h, hx => by
  have hm := mx_is n x.f2
  have h1 := hx x (List.mem_cons_self ..)
  simp only [endN]
  exact endN_le b t _ (by split at hm <;> omega) (fun y hy => hx y (List.mem_cons_of_mem _ hy))
theorem endJ_b (l : List Jb) : 0 ≤ endJ l ∧ endJ l ≤ 10000 := by
 unfold endJ
 split
 ·rename_i h
  have h1 := (endN_ge l 0).1
  refine ⟨by omega, endN_le 10000 l 0 (by decide) (fun x hx => ?_)⟩
  unfold allJ at h
  rw [Bool.and_eq_true, List.all_eq_true] at h
  exact (goodJ_all (h.2 x hx)).2.2.1
 ·omega
theorem endJ_ge {l : List Jb} (h : allJ l = true) (x : Jb) (hx : x ∈ l) : x.f2 ≤ endJ l := by
 unfold endJ
 rw [if_pos h]
 exact (endN_ge l 0).2 x hx
theorem goE_len (l : List Jb) (o : List Int) : ∀ (f : Nat) (t : Int) (left : List Int), (goE l o f t left).length = f
 | 0, _, _ => rfl
 | f + 1, t, left => by
  simp only [goE]
  split
  ·rw [List.length_cons, goE_len l o f]
  ·rw [List.length_cons, goE_len l o f]
/-- Does each have its charge by its deadline? -/
def meetsJ (l : List Jb) : Bool := allJ l && (List.range l.length).all fun i => decide (chg (rd_T45 l (i : Int)) ≤ (cntN (i : Int) ((runE l (endJ l) chg).take (rd_T45 l (i : Int)).f2.toNat) : Int))
theorem Charge_is (t : Jb) (h : t.f0.size ≤ 100) : job_Charge.f t.f0 t.f1 t.f2 t.f3 t.f4 t.f5 t.f6 t.f7 = some (chg t) := by
 unfold job_Charge.f chg
 rw [goodf_is t h, Option.bind_some]
 split
 ·rename_i hg
  have := goodJ_all hg
  rw [w64 (t.f3 + t.f6) (by omega) (by omega)]
 ·rfl
theorem Meets_l0 (l : List Jb) (hl : okN l) (hg : allJ l = true) (hn : l.length ≤ 1000) (t : List Int) (ht : t.length ≤ 10000) (hd : ∀ x ∈ l, x.f2 ≤ t.length) : ∀ d p k, p + d = l.length → d + 10001 < k →
  edf_Meets.l0 k t l l.length p = some ((List.range' p d).all fun i => decide (chg (rd_T45 l (i : Int)) ≤ (cntN (i : Int) (t.take (rd_T45 l (i : Int)).f2.toNat) : Int))) := by
 intro d
 induction d with
 | zero =>
  intro p k hp hk
  obtain ⟨k, rfl⟩ : ∃ k', k = k' + 1 := ⟨k - 1, by omega⟩
  unfold edf_Meets.l0
  rw [if_neg (by omega)]
  rfl
 | succ d ih =>
  intro p k hp hk
  obtain ⟨k, rfl⟩ : ∃ k', k = k' + 1 := ⟨k - 1, by omega⟩
  unfold edf_Meets.l0
  have hm := rdJ_mem l (p : Int) (by omega) (by omega)
  have h1 := hd _ hm
  have h2 := goodJ_all (allJ_at hg (p : Int) (by omega) (by omega))
  rw [if_pos (by omega), if_pos (by omega), if_pos (by omega), if_pos (by omega), if_pos h1, Ran_is _ _ k (by rw [List.length_take]; omega) (by rw [List.length_take]; omega), Option.bind_some, Charge_is _ (hl _ hm), Option.bind_some, w64 ((p : Int) + 1) (by omega) (by omega), show (p : Int) + 1 = ((p + 1 : Nat) : Int) by omega, ih (p + 1) k (by omega) (by omega), List.range'_succ, List.all_cons]
  by_cases hc : (cntN (p : Int) (t.take (rd_T45 l (p : Int)).f2.toNat) : Int) < chg (rd_T45 l (p : Int))
  ·rw [if_pos hc, decide_eq_false (by omega), Bool.false_and]
  ·rw [if_neg hc, decide_eq_true (by omega), Bool.true_and]
theorem runE_len {l : List Jb} (hg : l.all goodJ = true) (n : Int) (h0 : 0 ≤ n) (h1 : n ≤ 10000) (nd : Jb → Int) : (runE l n nd).length = n.toNat := by
 unfold runE
 rw [if_pos ⟨hg, h0⟩, goE_len]
 congr 1
 omega
theorem Meets_is (l : List Jb) (hl : okN l) (hn : l.length < 20) (k : Nat) (hk : 10100 < k) : edf_Meets.f k l = some (meetsJ l) := by
 unfold edf_Meets.f meetsJ
 rw [All_is l hl, Option.bind_some]
 cases hg : allJ l
 ·rfl
 ·have hga : l.all goodJ = true := by unfold allJ at hg; rw [Bool.and_eq_true] at hg; exact hg.2
  have hb := endJ_b l
  have hlen := runE_len hga (endJ l) hb.1 hb.2 chg
  rw [if_pos rfl, End_is l hl (by omega) k (by omega), Option.bind_some, show edfRunC.f l (endJ l) () = some (runE l (endJ l) chg) from if_pos ⟨hn, List.all_eq_true.2 fun x hx => decide_eq_true (by have := hl x hx; show _ ≤ PGd.lim; unfold PGd.lim; omega), by omega, by omega⟩, Option.bind_some]
  have := Meets_l0 l hl hg (by omega) (runE l (endJ l) chg) (by omega) (fun x hx => by have := endJ_ge hg x hx; omega) l.length 0 k (by omega) (by omega)
  rw [Bool.true_and, List.range_eq_range']
  exact this
def modJ (x : Jb) : Jb := ⟨x.f0, x.f1, x.f2, x.f4, x.f4, x.f5, 0, x.f7⟩
/-- Can all of these be met, at their actuals? -/
def metS (l : List Jb) (is : List Int) : Bool := meetsJ (is.map fun i => modJ (rd_T45 l i))
theorem Met_l0 (l : List Jb) (hl : okN l) (is : List Int) (hi : ∀ i ∈ is, 0 ≤ i ∧ i < l.length) (hn : is.length < 20) : ∀ d p k (s : List Jb), p + d = is.length → d + 10102 < k → s = (is.take p).map (fun i => modJ (rd_T45 l i)) → rival_met.l0 k l s is is.length p = some (metS l is) := by
 intro d
 induction d with
 | zero =>
  intro p k s hp hk hs
  obtain ⟨k, rfl⟩ : ∃ k', k = k' + 1 := ⟨k - 1, by omega⟩
  unfold rival_met.l0
  rw [List.take_of_length_le (by omega)] at hs
  rw [if_neg (by omega), Meets_is s (fun x hx => by
   rw [hs] at hx
   obtain ⟨i, hi2, rfl⟩ := List.mem_map.1 hx
   have hb := hi i hi2
   exact hl (rd_T45 l i) (rdJ_mem l i hb.1 hb.2)) (by rw [hs, List.length_map]; omega) k (by omega), Option.bind_some, hs]
  rfl
 | succ d ih =>
  intro p k s hp hk hs
  obtain ⟨k, rfl⟩ : ∃ k', k = k' + 1 := ⟨k - 1, by omega⟩
  unfold rival_met.l0
  have hm := rd_mem is (p : Int) (by omega) (by omega)
  have hb := hi _ hm
  have hsl : s.length = p := by rw [hs, List.length_map, List.length_take]; omega
  rw [if_pos (by omega), if_pos (by omega), if_pos (by omega), if_pos hb.1, if_pos hb.2, if_pos (by omega), w64 ((p : Int) + 1) (by omega) (by omega), show (p : Int) + 1 = ((p + 1 : Nat) : Int) by omega]
  refine ih (p + 1) k _ (by omega) (by omega) ?_
  rw [hs, List.take_succ_eq_append_getElem (show p < is.length by omega), List.map_append]
  congr 1
  unfold modJ rd
  rw [show ((p : Int)).toNat = p by omega, List.getD_eq_getElem?_getD, List.getElem?_eq_getElem (by omega)]
  rfl
theorem Met_is (l : List Jb) (hl : okN l) (is : List Int) (hi : ∀ i ∈ is, 0 ≤ i ∧ i < l.length) (hn : is.length < 20) (k : Nat) (hk : 10200 < k) : rival_met.f k l is = some (metS l is) :=
 Met_l0 l hl is hi hn is.length 0 k [] (by omega) (by omega) rfl

end Go.Proofs.YtobkfbkhcghaeaaGreatDoor.PRv
namespace Go.Proofs.YtobkfbkhcghaeaaGreatDoor.PRv
open Go.RowKit Go.Proofs.YtobkfbkhcghaeaaGreatDoor.PRv Go.Proofs.YtobkfbkhcghaeaaGreatDoorW.PrintWords Go.Proofs.YtobkfbkhcghaeaaGreatDoorW.PrintLast Go.Proofs.YtobkfbkhcghaeaaGreatDoorW.PrintMore 
set_option linter.unusedVariables false
set_option linter.unusedSimpArgs false

set_option maxHeartbeats 4000000
set_option maxRecDepth 100000
theorem eqN (w : World) (a : Option Addr) (n c : Nat) : (binOp .eql 23 (.slice a n c) (.slice none 0 0)).run Tryz.prog w = .ok (.bool a.isNone) w := Lib.run_eql_slice_nil w _ _ a n c 0 0 Tryz.underlying23
attribute [local go_sem] eqN
theorem clone_c (A : Option Addr) (c : Nat) (l : List Int) (W : World) (hr : Kd.C (Kd.int .i64) W A l.length l) (hc : l.length ≤ c) (hl : l.length ≤ 1000000) (hA : A = none → l = []) :
  Calls Tryz.prog 47 #[.slice A l.length c] W fun e w' => ∃ v, e = .returned v ∧ (Kd.int .i64).R 3 w' W.heap.size (fun _ => True) v l ∧ Below W.heap.size W w' := by
 have HB := Aside0.mk (Below.refl W.heap.size W)
 have HR := Aside0.mk hr
 clear hr
 cases A with
 | none =>
  obtain rfl := hA rfl
  clear hA
  go_enter Tryz.func47, Tryz.ntmps47
  go_wp2
  go_ret
  exact ⟨_, rfl, Kd.R_nil _ _ _ _ _, (by repeat (first | (with_reducible first | exact HB.out | apply below_alloc | apply pw_below_drewN | apply below_drew1) | exact HB.out))⟩
 | some A =>
  clear hA
  go_enter Tryz.func47, Tryz.ntmps47
  go_wp2_with (first | ((with_reducible refine gate_dst (N := 5) rfl ?_); refine Kd.R_lit (Kd.int .i64) _ 3 ?hg (N := 5) ?hd (xs := ([] : List Int)) (inner := []) (ok := fun _ => True) (okp := fun _ => True) ?hr ?hp (fun _ hk => hk) trivial (Below.refl _ _) (Nat.le_refl _) (by simp) ?_; (case hd => rfl); (case hg => rfl); (case hr => first | (go_simp; done) | (go_simp; rfl)); (case hp => exact (Reps.none _ _)); intro v1 w1 ho1 hb1 hg_ hnew_; clear hg_ hnew_; have HO := Aside0.mk ho1; have HB1 := Aside0.mk hb1; clear ho1 hb1) | ((with_reducible refine gate_builtin (b := .append) (xs := #[.tmp 5, .tmp 6]) rfl ?_); at_builtin; refine Kd.R_append_rows (Kd.int .i64) (w0 := W) W.heap.size rfl (.tmp 5) (.tmp 6) 23 3 (.int .i64 0) 8 rfl Tryz.underlying23 infoI rfl (by decide) (by decide) v1 [] l (some A) l.length c (fun _ => True) (fun _ => False) rfl rfl HO.out (Kd.C_below HR.out HB1.out) (fun _ _ h => h) (fun _ hk => hk.elim) (fun _ _ => trivial) HB1.out (below_size HB1.out) (by simp only [List.length_nil]; omega) ?_; intro v2 w2 ho hb hg hat; rw [List.nil_append] at ho; have HO2 := Aside0.mk ho; have HB2 := Aside0.mk hb; clear ho hb hg hat))
  go_ret
  exact ⟨_, rfl, HO2.out, HB2.out⟩
theorem Work_lim (t : Jb) (h : t.f0.size ≤ lim) : job_Work.f t.f0 t.f1 t.f2 t.f3 t.f4 t.f5 t.f6 t.f7 = some (workJ t) := by
 unfold job_Work.f workJ
 rw [show job_Good.f t.f0 t.f1 t.f2 t.f3 t.f4 t.f5 t.f6 t.f7 = some (goodJ t) by unfold job_Good.f; rw [if_pos h]; rfl]
 simp only [Option.bind_some]
 cases hg : goodJ t
 ·simp
 ·have := goodJ_b hg
  simp only [if_true, job_Runs.f, Option.bind_some, decide_eq_true_eq]
  split
  ·rfl
  ·rw [w64 _ (by omega) (by omega)]
theorem workJ_bd (x : S45) : 0 ≤ workJ x ∧ workJ x ≤ 100000 := by
 unfold workJ
 split
 ·rename_i h
  have := goodJ_all h
  split <;> omega
 ·omega
theorem work_c (x : S45) (hz : x.f0.size ≤ lim) (w : World) (hT : Tab w) : Calls Tryz.prog 36 #[.agg #[.string x.f0, .int .i64 x.f1, .int .i64 x.f2, .int .i64 x.f3, .int .i64 x.f4, .int .i64 x.f5, .int .i64 x.f6, .bool x.f7]] w fun e w' => e = .returned (.int .i64 (workJ x)) ∧ Below w.heap.size w w' :=
 job_Work.calls _ _ _ _ _ _ _ _ _ w hT (Work_lim x hz)
theorem edfRun_c (A : Option Addr) (c : Nat) (l : List S45) (ticks : Int) (W : World) (hT : Tab W) (hr : Kd.C k45 W A l.length l) (hc : l.length ≤ c) (hn : l.length < 20) (hz : ∀ x ∈ l, x.f0.size ≤ lim) (ht : -9223372036854775808 ≤ ticks ∧ ticks ≤ 9223372036854775807) :
  Calls Tryz.prog 27 #[.slice A l.length c, .int .i64 ticks] W fun e w' => ∃ v, e = .returned v ∧ (Kd.int .i64).R 3 w' W.heap.size (fun _ => True) v (runE l ticks workJ) ∧ Below W.heap.size W w' := by
 have C := Aside0.mk (run_c 36 _ workJ Tryz.func36 (by kernel_rfl) (by kernel_rfl) (fun x hz w hT => work_c x hz w hT) workJ_bd A c l ticks W hT hr hc hn hz ht)
 clear hT hr hz
 generalize runE l ticks workJ = r at C ⊢
 go_enter Tryz.func27, Tryz.ntmps27
 go_wp2_with (go_at_call 50; (with_reducible refine (C.out).mono ?_); rintro e w' ⟨v, rfl, ho, hb⟩; have HO := Aside0.mk ho; have HB := Aside0.mk hb; clear ho hb)
 go_ret
 exact ⟨_, rfl, HO.out, HB.out⟩

end Go.Proofs.YtobkfbkhcghaeaaGreatDoor.PRv
namespace Go.Proofs.YtobkfbkhcghaeaaGreatDoor.PRv
open Go.RowKit Go.Proofs.YtobkfbkhcghaeaaGreatDoor.PRv Go.Proofs.YtobkfbkhcghaeaaGreatDoorW.PrintWords Go.Proofs.YtobkfbkhcghaeaaGreatDoorW.PrintLast Go.Proofs.YtobkfbkhcghaeaaGreatDoorW.PrintMore Go.Shelf Go.Sort
set_option linter.unusedVariables false
set_option linter.unusedSimpArgs false

set_option maxHeartbeats 8000000
set_option maxRecDepth 100000
def runsJ (x : Jb) : Bool := decide (x.f4 ≤ x.f3)
def preI (l : List Jb) (n : Nat) : List Nat := (List.range n).filter fun i => runsJ (rd_T45 l (i : Int))
def okI (l : List Jb) : List Nat := preI l l.length
def keepL (mt : List Int → Bool) : List Int → List Int → List Int
 | [], s => s
 | i :: o, s => keepL mt o (if mt (s ++ [i]) = true then s ++ [i] else s)
def ordV (l : List Jb) : List Int := nI (srt (keyV l) (okI l))
def keptL (l : List Jb) : List Int := keepL (metS l) (ordV l) []
theorem okI_in (l : List Jb) : ∀ i ∈ okI l, i < l.length := fun i hi => List.mem_range.1 (List.mem_filter.1 hi).1
theorem okI_asc (l : List Jb) : (okI l).Pairwise (· < ·) := List.Pairwise.filter _ List.pairwise_lt_range
theorem ordV_in (l : List Jb) : ∀ i ∈ ordV l, 0 ≤ i ∧ i < (l.length : Int) := by
 intro i hi
 obtain ⟨j, hj, rfl⟩ := List.mem_map.1 hi
 have := okI_in l j ((srt_perm _ _).mem_iff.1 hj)
 omega
theorem preI_len (l : List Jb) (n : Nat) : (preI l n).length ≤ n := by
 unfold preI
 exact Nat.le_trans (List.length_filter_le _ _) (by simp)
theorem ordV_len (l : List Jb) : (ordV l).length ≤ l.length := by
 unfold ordV
 rw [nI_len, (srt_perm _ _).length_eq]
 exact preI_len l l.length
theorem cmpI_neg (a b : Int) : cmpI (-a) (-b) = cmpI b a := by
 unfold cmpI
 repeat' split
 all_goals first | rfl | omega
theorem rng_step (l : List Jb) (i : Nat) : preI l (i + 1) = if runsJ (rd_T45 l (i : Int)) = true then preI l i ++ [i] else preI l i := by
 unfold preI
 rw [List.range_succ, List.filter_append]
 cases h : runsJ (rd_T45 l (i : Int)) <;> simp [h]
theorem sortV_c (l : List Jb) (A : Option Addr) (c : Nat) (W W1 wr : World) (Ao : Option Addr) (m co : Nat) (is : List Nat) (HC : Cap W1 W.heap.size A l.length c l) (HS : W.heap.size < W1.heap.size)
  (hR : (Kd.int .i64).R 3 wr W1.heap.size (fun _ => True) (.slice Ao m co) (nI is)) (hB : RowKit.Below W1.heap.size W1 wr) (hi : ∀ i ∈ is, i < l.length) (ha : is.Pairwise (· < ·)) (hm : m < 20) :
  Calls Tryz.prog 44 #[.slice Ao m co, .func (.func 45) #[] #[.pointer (some ⟨W.heap.size, 0, none⟩)]] wr fun e w' => e = .returned (.tuple #[]) ∧ (Kd.int .i64).R 3 w' W1.heap.size (fun _ => True) (.slice Ao m co) (nI (srt (keyV l) is)) ∧ RowKit.Below W1.heap.size W1 w' := by
 have hl := (Kd.R_reads' hR).1
 rw [nI_len] at hl
 by_cases h0 : m = 0
 ·subst h0
  obtain rfl := List.eq_nil_of_length_eq_zero hl.symm
  refine sort_fn _ _ _ _ _ _ _ ?_
  refine (stab_nil Ao co 45 #[.pointer (some ⟨W.heap.size, 0, none⟩)] wr).mono ?_
  rintro e w' ⟨rfl, rfl⟩
  exact ⟨rfl, rfl, hR, hB⟩
 ·obtain ⟨_, ⟨e1, e2⟩ | ⟨G, cap', cur, e1, _⟩⟩ := Kd.own_of_R hR
  ·injection e1 with _ e1 _
   exact absurd e1 h0
  ·injection e1 with e1 _ _
   subst e1
   refine (sort_own 45 (keyV l) #[.pointer (some ⟨W.heap.size, 0, none⟩)] (enters_of Tryz.func45 (by kernel_rfl) rfl) W1 wr l.length G m co (fun _ => True) is (fun w hb i j => ?_) hR hB hi ha hm).mono fun e w' h => ⟨h.1, h.2.1, h.2.2.1⟩
   unfold keyV
   rw [cmpI_neg]
   exact kept_c w _ A l.length c l (HC.below hb HS) i.val j.val (by omega) (by omega) (by omega) (by omega)
theorem keptL_c (A : Option Addr) (c : Nat) (l : List Jb) (W : World) (hT : Tab W) (hr : Kd.C k45 W A l.length l) (hc : l.length ≤ c) (hn : l.length < 20) (hz : okN l) :
  Calls Tryz.prog 25 #[.slice A l.length c] W fun e w' => ∃ v, e = .returned v ∧ (Kd.int .i64).R 3 w' W.heap.size (fun _ => True) v (keptL l) ∧ Below W.heap.size W w' := by
 have HZs := Aside0.mk hz
 have HT := Aside0.mk hT
 have HB := Aside0.mk (below_alloc (Below.refl W.heap.size W) (.cells #[.slice A l.length c] 22))
 have HC : Aside0 (Cap (W.alloc (.cells #[.slice A l.length c] 22)) W.heap.size A l.length c l) := ⟨⟨(blk_cell (blk_new _ _) 0).trans rfl, Kd.C_alloc hr _⟩⟩
 have hcell : (W.alloc (.cells #[.slice A l.length c] 22)).cell? ⟨W.heap.size, 0, none⟩ = some (.slice A l.length c) := HC.out.box
 have HS : Aside0 (W.heap.size < (W.alloc (.cells #[.slice A l.length c] 22)).heap.size) := ⟨blk_lt (blk_new _ _)⟩
 have CM := Aside0.mk (fun (is : List Int) (hi : ∀ i ∈ is, 0 ≤ i ∧ i < (l.length : Int)) (hl : is.length < 20) (w : World) (hT : Tab w) (A1 : Option Addr) (c1 : Nat) (hr : Kd.C k45 w A l.length l) (hr1 : Kd.C (Kd.int .i64) w A1 is.length is) (hc1 : is.length ≤ c1) => rival_met.calls 10201 A c l A1 c1 is _ w hT hr hc hr1 hc1 (Met_is l hz is hi hl 10201 (by omega)))
 have HOI := Aside0.mk (ordV_in l)
 have HOL := Aside0.mk (ordV_len l)
 clear hr hT hz
 go_enter Tryz.func25, Tryz.ntmps25
 go_upto_region 1 with (fail)
 generalize W.alloc (.cells #[.slice A l.length c] 22) = W1 at HB HC hcell HS ⊢
 have HB1 : Aside0 (RowKit.Below W1.heap.size W1 W1) := ⟨Below.refl _ _⟩
 go_wp2
 go_loopg [3, 12] l.length (fun f v3 v12 wr => ∃ (i : Int) (vv : Value), v12 = .int .i64 i ∧ vv = v3 ∧ 0 ≤ i ∧ i + f = l.length ∧ Aside0 ((Kd.int .i64).R 3 wr W1.heap.size (fun _ => True) v3 (nI (preI l i.toNat))) ∧ Aside0 (RowKit.Below W1.heap.size W1 wr))
 case atStart => exact ⟨0, _, rfl, rfl, by omega, by omega, ⟨Kd.R_nil _ _ _ _ _⟩, HB1⟩
 case round =>
  clear HB1
  obtain ⟨i, v3, rfl, hv3, hi0, hil, HO, HB1⟩ := hrel
  subst hv3
  obtain ⟨Av, nv, cv, rfl, HNv⟩ : ∃ Av nv cv, v3 = .slice Av nv cv ∧ Aside0 (nv = (nI (preI l i.toNat)).length) := by obtain ⟨a, c, e⟩ := Kd.R_slice HO.out; exact ⟨a, _, c, e, ⟨rfl⟩⟩
  by_cases hlt : i < l.length
  ·obtain ⟨f, rfl⟩ : ∃ f, gk = f + 1 := ⟨gk - 1, by omega⟩
   obtain ⟨a, rfl, q0, q1, q2, q3, q4, q5, q6, q7⟩ := at_T45 (Kd.C_below HC.out.row HB1.out) i (by omega) (by omega)
   have HE := Aside0.mk (rng_step l i.toNat)
   have HLn : Aside0 ((nI (preI l i.toNat)).length ≤ i.toNat) := ⟨by rw [nI_len]; exact preI_len l i.toNat⟩
   have HE2 : Aside0 (rd_T45 l ((i.toNat : Nat) : Int) = rd_T45 l i) := ⟨by rw [show ((i.toNat : Nat) : Int) = i by omega]⟩
   have HE3 := Aside0.mk HE.out
   generalize preI l i.toNat = pr at *
   generalize rd_T45 l i = x at *
   go_upto_region 5 with (fail)
   have HOw := Aside0.mk (Kd.R_alloc HO.out (.cells #[.string x.f0, .int .i64 x.f1, .int .i64 x.f2, .int .i64 x.f3, .int .i64 x.f4, .int .i64 x.f5, .int .i64 x.f6, .bool x.f7] 45))
   have HBw := Aside0.mk (below_alloc HB1.out (.cells #[.string x.f0, .int .i64 x.f1, .int .i64 x.f2, .int .i64 x.f3, .int .i64 x.f4, .int .i64 x.f5, .int .i64 x.f6, .bool x.f7] 45))
   have HJw := Aside0.mk (blk_new wr (.cells #[.string x.f0, .int .i64 x.f1, .int .i64 x.f2, .int .i64 x.f3, .int .i64 x.f4, .int .i64 x.f5, .int .i64 x.f6, .bool x.f7] 45))
   clear HO HB1 HE q0 q1 q2 q3 q4 q5 q6 q7
   generalize wr.alloc (.cells #[.string x.f0, .int .i64 x.f1, .int .i64 x.f2, .int .i64 x.f3, .int .i64 x.f4, .int .i64 x.f5, .int .i64 x.f6, .bool x.f7] 45) = Wd at HOw HBw HJw ⊢
   generalize wr.heap.size = J at HJw ⊢
   have c0 : Wd.cell? ⟨J, 0, none⟩ = some (.string x.f0) := (blk_cell HJw.out 0).trans rfl
   have c1 : Wd.cell? ⟨J, 1, none⟩ = some (.int .i64 x.f1) := (blk_cell HJw.out 1).trans rfl
   have c2 : Wd.cell? ⟨J, 2, none⟩ = some (.int .i64 x.f2) := (blk_cell HJw.out 2).trans rfl
   have c3 : Wd.cell? ⟨J, 3, none⟩ = some (.int .i64 x.f3) := (blk_cell HJw.out 3).trans rfl
   have c4 : Wd.cell? ⟨J, 4, none⟩ = some (.int .i64 x.f4) := (blk_cell HJw.out 4).trans rfl
   have c5 : Wd.cell? ⟨J, 5, none⟩ = some (.int .i64 x.f5) := (blk_cell HJw.out 5).trans rfl
   have c6 : Wd.cell? ⟨J, 6, none⟩ = some (.int .i64 x.f6) := (blk_cell HJw.out 6).trans rfl
   have c7 : Wd.cell? ⟨J, 7, none⟩ = some (.bool x.f7) := (blk_cell HJw.out 7).trans rfl
   have CR := Aside0.mk (fun (w : World) => job_Runs.calls x.f0 x.f1 x.f2 x.f3 x.f4 x.f5 x.f6 x.f7 _ w rfl)
   cases hq : decide (x.f4 ≤ x.f3)
   ·have HX : Aside0 (runsJ x = false) := ⟨hq⟩
    rw [hq] at CR
    clear hq
    go_wp2_with (go_at_call 21; (with_reducible refine (CR.out _).mono ?_); rintro e w3 ⟨rfl, hb⟩; have HO3 := Aside0.mk (Kd.R_below HOw.out hb); have HB3 := Aside0.mk (below_step HBw.out hb); clear hb)
    go_roundg f
    case measure => omega
    case rel => exact ⟨i + 1, _, by go_num, rfl, by omega, by omega, ⟨by have h := HO3.out; have h2 := HE3.out; rw [HE2.out, HX.out, if_neg (by simp)] at h2; rw [show (i + 1).toNat = i.toNat + 1 by omega, h2]; exact h⟩, HB3⟩
   ·have HX : Aside0 (runsJ x = true) := ⟨hq⟩
    rw [hq] at CR
    clear hq
    go_wp2_with (first | (go_at_call 21; (with_reducible refine (CR.out _).mono ?_); rintro e w3 ⟨rfl, hb⟩; have HO3 := Aside0.mk (Kd.R_below HOw.out hb); have HB3 := Aside0.mk (below_step HBw.out hb); clear hb) | ((with_reducible refine gate_builtin (b := .append) (xs := #[.tmp 19, .tmp 21]) rfl ?_); at_builtin; refine Kd.R_append (Kd.int .i64) (w0 := W1) W1.heap.size rfl (.tmp 19) (.tmp 21) 23 3 (.int .i64 0) 8 rfl Tryz.underlying23 infoI rfl (by decide) (by omega) (.slice Av _ cv) (nI pr) i [.int .i64 i] (fun _ => True) (fun _ => False) rfl rfl rfl (fun _ hk => hk.elim) (fun _ _ => trivial) HO3.out HB3.out (below_size HB3.out) (by have := HLn.out; omega) ?_; intro v1 w1 ho hb hg hat; have HO4 := Aside0.mk ho; have HB4 := Aside0.mk hb; clear ho hb hg hat))
    go_roundg f
    case measure => omega
    case rel => exact ⟨i + 1, _, by go_num, rfl, by omega, by omega, ⟨by have h := HO4.out; have h2 := HE3.out; rw [HE2.out, HX.out, if_pos rfl] at h2; rw [show (i + 1).toNat = i.toNat + 1 by omega, h2]; unfold nI at h ⊢; rw [List.map_append]; rw [List.map_cons, List.map_nil, show ((i.toNat : Nat) : Int) = i by omega]; exact h⟩, HB4⟩
  ·obtain rfl : i = l.length := by omega
   have hR : (Kd.int .i64).R 3 wr W1.heap.size (fun _ => True) (.slice Av nv cv) (nI (okI l)) := by
    have h := HO.out
    rw [Int.toNat_natCast] at h
    exact h
   have HNv2 : Aside0 (nv = (ordV l).length) := ⟨by rw [HNv.out, Int.toNat_natCast]; unfold ordV okI; rw [nI_len, nI_len, (srt_perm _ _).length_eq]⟩
   have CS := Aside0.mk (sortV_c l A c W W1 wr Av nv cv (okI l) HC.out HS.out hR HB1.out (okI_in l) (okI_asc l) (by have := HNv2.out; have := HOL.out; omega))
   clear hR HO HNv HB1
   go_wp2_with (go_at_call 44; (with_reducible refine (CS.out).mono ?_); rintro e w9 ⟨rfl, ho, hb⟩; have HO9 := Aside0.mk (Kd.R_reads' ho).2; have HB9 := Aside0.mk hb; clear ho hb)
   have HOC : Aside0 (Kd.C (Kd.int .i64) w9 Av nv (ordV l)) := ⟨by have h := HO9.out.2; have e : (nI (srt (keyV l) (okI l))).length = nv := HNv2.out.symm; rw [e] at h; exact h⟩
   clear HO9 CS
   have HB0 : Aside0 (RowKit.Below w9.heap.size w9 w9) := ⟨Below.refl _ _⟩
   go_loopg [4, 29] nv (fun f v4 v29 wr => ∃ (i : Int) (s : List Int), v29 = .int .i64 i ∧ 0 ≤ i ∧ i + f = nv ∧ Aside0 ((Kd.int .i64).R 3 wr w9.heap.size (fun _ => True) v4 s) ∧ Aside0 (RowKit.Below w9.heap.size w9 wr) ∧ Aside0 (keptL l = keepL (metS l) ((ordV l).drop i.toNat) s) ∧ Aside0 ((s.length : Int) ≤ i) ∧ Aside0 (∀ x ∈ s, 0 ≤ x ∧ x < (l.length : Int)))
   case atStart => exact ⟨0, [], rfl, by omega, by omega, ⟨Kd.R_nil _ _ _ _ _⟩, HB0, ⟨rfl⟩, ⟨by simp⟩, ⟨fun x hx => by cases hx⟩⟩
   case round =>
    clear HB0
    obtain ⟨i, s, rfl, hi0, hin, HSo, HB1, HE, HL, HI⟩ := hrel
    obtain ⟨As, cs, rfl⟩ := Kd.R_slice HSo.out
    by_cases hlt : i < nv
    ·obtain ⟨f, rfl⟩ : ∃ f, gk = f + 1 := ⟨gk - 1, by omega⟩
     obtain ⟨ao, rfl, hco⟩ := Kd.at_int (Kd.C_below HOC.out HB1.out) i (by omega) (by omega)
     have hjm : rd (ordV l) i ∈ ordV l := rd_mem _ _ hi0 (by have := HNv2.out; omega)
     have HIx := Aside0.mk (HOI.out _ hjm)
     have HD : Aside0 ((ordV l).drop i.toNat = rd (ordV l) i :: (ordV l).drop (i.toNat + 1)) := ⟨by have h := rd_at (ordV l) i.toNat (by have := HNv2.out; omega); rwa [show ((i.toNat : Nat) : Int) = i by omega] at h⟩
     have HNl : Aside0 (nv ≤ l.length) := ⟨by have := HNv2.out; have := HOL.out; omega⟩
     clear hjm
     generalize rd (ordV l) i = x at *
     have HAs : Aside0 (As = none → s = []) := ⟨fun e => by
      obtain ⟨_, ⟨e1, e2⟩ | ⟨G, cap', cur, e1, _⟩⟩ := Kd.own_of_R HSo.out
      ·injection e1 with _ e1 _
       exact List.eq_nil_of_length_eq_zero e1
      ·injection e1 with e1 _ _
       rw [e] at e1
       cases e1⟩
     have CCl := Aside0.mk (clone_c As cs s wr (Kd.R_reads' HSo.out).2.2 (Kd.R_reads' HSo.out).2.1 (by have := HL.out; have := HNl.out; omega) HAs.out)
     have HMi : Aside0 (∀ y ∈ s ++ [x], 0 ≤ y ∧ y < (l.length : Int)) := ⟨fun y hy => by
      rcases List.mem_append.1 hy with hy | hy
      ·exact HI.out y hy
      ·rw [List.mem_singleton.1 hy]; exact HIx.out⟩
     have HMl : Aside0 ((s ++ [x]).length < 20) := ⟨by rw [List.length_append, List.length_singleton]; have := HL.out; have := HNl.out; omega⟩
     go_upto_region 13 with (first | (go_at_call 47; (with_reducible refine (CCl.out).mono ?_); rintro e w3 ⟨v3, rfl, ho, hb⟩; have HO3 := Aside0.mk ho; have HB3 := Aside0.mk hb; clear ho hb) | ((with_reducible refine gate_builtin (b := .append) (xs := #[.tmp 34, .tmp 36]) rfl ?_); at_builtin; refine Kd.R_append (Kd.int .i64) (w0 := wr) wr.heap.size rfl (.tmp 34) (.tmp 36) 23 3 (.int .i64 0) 8 rfl Tryz.underlying23 infoI rfl (by decide) (by omega) v3 s x [.int .i64 x] (fun _ => True) (fun _ => False) rfl rfl rfl (fun _ hk => hk.elim) (fun _ _ => trivial) HO3.out HB3.out (below_size HB3.out) (by have := HL.out; have := HNl.out; omega) ?_; intro v4 w4 ho hb hg hat; have HO4 := Aside0.mk ho; have HB4 := Aside0.mk hb; clear ho hb hg hat))
     obtain ⟨A4, c4, rfl⟩ := Kd.R_slice HO4.out
     have HB5 := Aside0.mk (below_step HB9.out (below_step HB1.out HB4.out))
     have hcell4 : w4.cell? ⟨W.heap.size, 0, none⟩ = some (.slice A l.length c) := (HC.out.below HB5.out HS.out).box
     have HR4 := Aside0.mk (Kd.C_below HC.out.row HB5.out)
     have HX4 := Aside0.mk (Kd.R_reads' HO4.out).2
     have HT4 := Aside0.mk (tab_below HT.out (below_step HB.out HB5.out))
     have CM4 := Aside0.mk (CM.out (s ++ [x]) HMi.out HMl.out w4 HT4.out A4 c4 HR4.out HX4.out.2 HX4.out.1)
     rw [show (s ++ [x]).length = s.length + 1 by rw [List.length_append, List.length_singleton]] at CM4
     have HK : Aside0 (keptL l = keepL (metS l) ((ordV l).drop (i.toNat + 1)) (if metS l (s ++ [x]) = true then s ++ [x] else s)) := ⟨by rw [HE.out, HD.out]; rfl⟩
     clear HE HD
     cases hq : metS l (s ++ [x])
     ·rw [hq] at CM4 HK
      clear hq
      go_wp2_with (go_at_call 22; (with_reducible refine (CM4.out).mono ?_); rintro e w5 ⟨rfl, hb⟩; have HB6 := Aside0.mk (below_step HB4.out hb); clear hb)
      go_roundg f
      case measure => omega
      case rel => exact ⟨i + 1, s, congrArg (Value.int .i64) (w64 (i + 1) (by omega) (by have := HNl.out; omega)), by omega, by omega, ⟨Kd.R_below HSo.out HB6.out⟩, ⟨below_step HB1.out HB6.out⟩, ⟨by rw [show (i + 1).toNat = i.toNat + 1 by omega]; exact HK.out⟩, ⟨by have := HL.out; omega⟩, HI⟩
     ·rw [hq] at CM4 HK
      clear hq
      go_wp2_with (go_at_call 22; (with_reducible refine (CM4.out).mono ?_); rintro e w5 ⟨rfl, hb⟩; have HB6 := Aside0.mk (below_step HB4.out hb); have HO6 := Aside0.mk (Kd.R_below HO4.out hb); clear hb)
      go_roundg f
      case measure => omega
      case rel => exact ⟨i + 1, s ++ [x], congrArg (Value.int .i64) (w64 (i + 1) (by omega) (by have := HNl.out; omega)), by omega, by omega, ⟨by have h := HO6.out; rw [show (s ++ [x]).length = s.length + 1 by rw [List.length_append, List.length_singleton]] at h; exact Kd.R_lower h (below_size HB1.out)⟩, ⟨below_step HB1.out HB6.out⟩, ⟨by rw [show (i + 1).toNat = i.toNat + 1 by omega]; exact HK.out⟩, ⟨by rw [List.length_append, List.length_singleton]; have := HL.out; omega⟩, HMi⟩
    ·obtain rfl : i = nv := by omega
     have HE2 : Aside0 (keptL l = s) := ⟨by rw [HE.out, Int.toNat_natCast, List.drop_of_length_le (by have := HNv2.out; omega)]; rfl⟩
     clear HE
     go_wp2
     go_ret
     refine ⟨_, rfl, ?_, below_step HB.out (below_step HB9.out HB1.out)⟩
     rw [HE2.out]
     exact Kd.R_lower HSo.out (below_size (below_step HB.out HB9.out))

end Go.Proofs.YtobkfbkhcghaeaaGreatDoor.PRv
namespace Go.Proofs.YtobkfbkhcghaeaaGreatDoor.PRv
open Go.RowKit Go.Proofs.YtobkfbkhcghaeaaGreatDoor.PRv Go.Proofs.YtobkfbkhcghaeaaGreatDoorW.PrintWords Go.Proofs.YtobkfbkhcghaeaaGreatDoorW.PrintLast Go.Proofs.YtobkfbkhcghaeaaGreatDoorW.PrintMore 
set_option linter.unusedVariables false
set_option linter.unusedSimpArgs false

def sortL (xs : List Int) : List Int := xs.mergeSort fun x y => decide (x ≤ y)
def ksG (l : List Jb) : List Int := sortL (keptL l)
def jobsAt (l : List Jb) (is : List Int) : List Jb := is.map fun i => rd_T45 l i
def bk (ks : List Int) (i : Int) : Int := if i = -1 then -1 else rd ks i
def backT (ks t : List Int) : List Int := t.map (bk ks)
def greedyT (l : List Jb) : List Int := backT (ksG l) (runE (jobsAt l (ksG l)) (endJ l) workJ)
theorem keepL_in (mt : List Int → Bool) : ∀ (o s : List Int), ∀ x ∈ keepL mt o s, x ∈ s ∨ x ∈ o
 | [], s, x, hx => .inl hx
 | i :: o, s, x, hx => by
  simp only [keepL] at hx
  rcases keepL_in mt o _ x hx with h | h
  ·split at h
   ·rcases List.mem_append.1 h with h | h
    ·exact .inl h
    ·exact .inr (List.mem_cons.2 (.inl (List.mem_singleton.1 h)))
   ·exact .inl h
  ·exact .inr (List.mem_cons_of_mem _ h)
theorem keepL_len (mt : List Int → Bool) : ∀ (o s : List Int), (keepL mt o s).length ≤ s.length + o.length
 | [], s => by simp [keepL]
 | i :: o, s => by
  simp only [keepL]
  have := keepL_len mt o (if mt (s ++ [i]) = true then s ++ [i] else s)
  rw [List.length_cons]
  split at this
  ·rw [List.length_append, List.length_singleton] at this
   rename_i h
   rw [if_pos h]
   omega
  ·rename_i h
   rw [if_neg h]
   omega
theorem sortL_mem (xs : List Int) (x : Int) : x ∈ sortL xs ↔ x ∈ xs := (List.mergeSort_perm _ _).mem_iff
theorem sortL_len (xs : List Int) : (sortL xs).length = xs.length := (List.mergeSort_perm _ _).length_eq
theorem keptL_in (l : List Jb) : ∀ i ∈ keptL l, 0 ≤ i ∧ i < (l.length : Int) := by
 intro i hi
 rcases keepL_in _ _ _ i hi with h | h
 ·cases h
 ·exact ordV_in l i h
theorem keptL_len (l : List Jb) : (keptL l).length ≤ l.length := by
 have := keepL_len (metS l) (ordV l) []
 have h := ordV_len l
 simp only [List.length_nil] at this
 unfold keptL
 omega
theorem ksG_in (l : List Jb) : ∀ i ∈ ksG l, 0 ≤ i ∧ i < (l.length : Int) := fun i hi => keptL_in l i ((sortL_mem _ _).1 hi)
theorem ksG_len (l : List Jb) : (ksG l).length ≤ l.length := by unfold ksG; rw [sortL_len]; exact keptL_len l
theorem jobsAt_len (l : List Jb) (is : List Int) : (jobsAt l is).length = is.length := List.length_map ..
theorem jobsAt_okN {l : List Jb} (hl : okN l) {is : List Int} (hi : ∀ i ∈ is, 0 ≤ i ∧ i < (l.length : Int)) : okN (jobsAt l is) := by
 intro t ht
 obtain ⟨i, h, rfl⟩ := List.mem_map.1 ht
 exact hl _ (rdJ_mem l i (hi i h).1 (hi i h).2)
theorem goE_in (l : List Jb) (o : List Int) (ho : ∀ i ∈ o, 0 ≤ i ∧ i < (l.length : Int)) : ∀ (f : Nat) (t : Int) (left : List Int), ∀ x ∈ goE l o f t left, x = -1 ∨ 0 ≤ x ∧ x < (l.length : Int)
 | 0, _, _, x, hx => by cases hx
 | f + 1, t, left, x, hx => by
  have hb := firstE_bd (mayE l t left) o 0
  simp only [goE] at hx
  split at hx
  ·rcases List.mem_cons.1 hx with rfl | hx
   ·exact .inl rfl
   ·exact goE_in l o ho f _ _ x hx
  ·rename_i hneg
   rcases List.mem_cons.1 hx with rfl | hx
   ·have h2 := hb.2 (by omega)
    exact .inr (ho _ (rd_mem o _ (by omega) (by omega)))
   ·exact goE_in l o ho f _ _ x hx
theorem runE_in (l : List Jb) (T : Int) (nd : Jb → Int) : ∀ x ∈ runE l T nd, x = -1 ∨ 0 ≤ x ∧ x < (l.length : Int) := by
 intro x hx
 unfold runE at hx
 split at hx
 ·exact goE_in l _ (ordD_in l) _ _ _ x hx
 ·cases hx
theorem rd_left (a b : List Int) (i : Int) (h0 : 0 ≤ i) (h : i.toNat = a.length) (x : Int) : rdOf (0 : Int) (a ++ x :: b) i = x := by
 unfold rdOf
 rw [h, List.getD_eq_getElem?_getD, List.getElem?_append_right (Nat.le_refl _), Nat.sub_self]
 rfl
theorem back_at (ks t : List Int) (i : Int) (h0 : 0 ≤ i) (h : i < t.length) : rdOf (0 : Int) (backT ks (t.take i.toNat) ++ t.drop i.toNat) i = rd t i := by
 have e := rd_at t i.toNat (by omega)
 rw [e, rd_left _ _ i h0 (by unfold backT; rw [List.length_map, List.length_take]; omega)]
 rw [show ((i.toNat : Nat) : Int) = i by omega]
theorem back_next (ks t : List Int) (i : Int) (h0 : 0 ≤ i) (h : i < t.length) : backT ks (t.take (i.toNat + 1)) ++ t.drop (i.toNat + 1) = backT ks (t.take i.toNat) ++ bk ks (rd t i) :: t.drop (i.toNat + 1) := by
 unfold backT
 rw [List.take_succ_eq_append_getElem (show i.toNat < t.length by omega), List.map_append, List.append_assoc]
 congr 1
 show [bk ks _] ++ _ = _
 rw [List.singleton_append]
 congr 2
 unfold rd
 rw [List.getD_eq_getElem?_getD, List.getElem?_eq_getElem (by omega)]
 rfl
theorem back_keep (ks t : List Int) (i : Int) (h0 : 0 ≤ i) (h : i < t.length) (hx : rd t i = -1) : backT ks (t.take (i.toNat + 1)) ++ t.drop (i.toNat + 1) = backT ks (t.take i.toNat) ++ t.drop i.toNat := by
 rw [back_next ks t i h0 h]
 have e := rd_at t i.toNat (by omega)
 rw [e, show ((i.toNat : Nat) : Int) = i by omega, hx]
 rfl
theorem back_set (ks t : List Int) (i : Int) (h0 : 0 ≤ i) (h : i < t.length) (hx : rd t i ≠ -1) : (backT ks (t.take i.toNat) ++ t.drop i.toNat).set i.toNat (rd ks (rd t i)) = backT ks (t.take (i.toNat + 1)) ++ t.drop (i.toNat + 1) := by
 rw [back_next ks t i h0 h]
 have e := rd_at t i.toNat (by omega)
 have hl : (backT ks (t.take i.toNat)).length = i.toNat := by unfold backT; rw [List.length_map, List.length_take]; omega
 rw [e, List.set_append_right _ _ (by omega), hl, Nat.sub_self, List.set_cons_zero]
 unfold bk
 rw [if_neg hx]

end Go.Proofs.YtobkfbkhcghaeaaGreatDoor.PRv
namespace Go.Proofs.YtobkfbkhcghaeaaGreatDoor.PRv
open Go.RowKit Go.Proofs.YtobkfbkhcghaeaaGreatDoor.PRv Go.Proofs.YtobkfbkhcghaeaaGreatDoorW.PrintWords Go.Proofs.YtobkfbkhcghaeaaGreatDoorW.PrintLast Go.Proofs.YtobkfbkhcghaeaaGreatDoorW.PrintMore Go.Shelf Go.Sort
set_option linter.unusedVariables false
set_option linter.unusedSimpArgs false

set_option maxHeartbeats 8000000
set_option maxRecDepth 100000
theorem encs_int (xs : List Int) : encs (Value.int .i64) xs = xs.map (Value.int .i64) := rfl
theorem sortI_c (w0 wr : World) (Ao : Option Addr) (m co : Nat) (xs : List Int) (hR : (Kd.int .i64).R 3 wr w0.heap.size (fun _ => True) (.slice Ao m co) xs) (hB : RowKit.Below w0.heap.size w0 wr) (hm : m < 1000000) :
  Calls Tryz.prog 26 #[.slice Ao m co] wr fun e w' => e = .returned (.tuple #[]) ∧ (Kd.int .i64).R 3 w' w0.heap.size (fun _ => True) (.slice Ao m co) (sortL xs) ∧ RowKit.Below w0.heap.size w0 w' := by
 have hl := (Kd.R_reads' hR).1
 subst hl
 by_cases h0 : xs.length = 0
 ·obtain rfl := List.eq_nil_of_length_eq_zero h0
  refine (Tryz.slices_Sort_int_none Ao co wr).mono ?_
  rintro e w' ⟨rfl, rfl⟩
  refine ⟨rfl, ?_, hB⟩
  rw [show sortL [] = [] by unfold sortL; simp]
  exact hR
 ·have ho := Kd.own_of_R hR
  rcases ho with ⟨_, ⟨e1, _⟩ | ⟨G, cap', cur, e1, h2, h3, h4, h5, h6, h7⟩⟩
  ·injection e1 with _ e1 _
   exact absurd e1 h0
  ·injection e1 with e1 _ e3
   subst e1 e3
   refine (Tryz.slices_Sort_int G 0 co xs wr (holds_of_blockI h3 (by rw [Nat.mul_one] at h7; exact h7)) (blk_lt h3) (by omega)).mono ?_
   rintro e w' ⟨rfl, n, os, rfl⟩
   refine ⟨rfl, ?_, below_sw (Value.int .i64) _ os hB h2 (below_size hB)⟩
   have hl : (sortL xs).length = xs.length := sortL_len xs
   have := ownsRow_sortedI (n := n) (os := os) (ts := sortL xs) hl h2 h3 h4 h5 h6
   rw [← hl] at this ⊢
   exact Kd.R_of_own this (fun _ _ => trivial)
def rival_Greedy.f (l : List Jb) : Option (List Int × Int) := if l.length < 20 ∧ l.all (fun t => decide (t.f0.size ≤ 100)) = true then some (if allJ l = true then (greedyT l, 0) else ([], 1)) else none
theorem greedy_bad (A : Option Addr) (c : Nat) (l : List Jb) (W : World) (hT : Tab W) (hr : Kd.C k45 W A l.length l) (hc : l.length ≤ c) (hn : l.length < 20) (hz : okN l) (hg : allJ l = false) :
  Calls Tryz.prog 10 #[.slice A l.length c] W fun e w' => ∃ v, e = .returned (.tuple #[v, .int .i64 1]) ∧ (Kd.int .i64).R 3 w' W.heap.size (fun _ => True) v [] ∧ Below W.heap.size W w' := by
 have CA := Aside0.mk (job_All.calls A c l _ W hT hr hc (All_is l hz))
 rw [hg] at CA
 clear hT hr hz hg
 go_enter Tryz.func10, Tryz.ntmps10
 go_wp2_with (go_at_call 20; (with_reducible refine (CA.out).mono ?_); rintro e w' ⟨rfl, hb⟩; have HB := Aside0.mk hb; clear hb)
 go_ret2
 exact ⟨_, rfl, Kd.R_nil _ _ _ _ _, HB.out⟩
theorem greedy_good (A : Option Addr) (c : Nat) (l : List Jb) (W : World) (hT : Tab W) (hr : Kd.C k45 W A l.length l) (hc : l.length ≤ c) (hn : l.length < 20) (hz : okN l) (hg : allJ l = true) :
  Calls Tryz.prog 10 #[.slice A l.length c] W fun e w' => ∃ v, e = .returned (.tuple #[v, .int .i64 0]) ∧ (Kd.int .i64).R 3 w' W.heap.size (fun _ => True) v (greedyT l) ∧ Below W.heap.size W w' := by
 have HG : Aside0 (greedyT l = backT (ksG l) (runE (jobsAt l (ksG l)) (endJ l) workJ)) := ⟨rfl⟩
 have CA := Aside0.mk (job_All.calls A c l _ W hT hr hc (All_is l hz))
 rw [hg] at CA
 have CK := Aside0.mk (fun (w : World) (hb : RowKit.Below W.heap.size W w) => keptL_c A c l w (tab_below hT hb) (Kd.C_below hr hb) hc hn hz)
 have CE := Aside0.mk (fun (w : World) (hb : RowKit.Below W.heap.size W w) => job_End.calls 21 A c l _ w (tab_below hT hb) (Kd.C_below hr hb) hc (End_is l hz (by omega) 21 (by omega)))
 have HR := Aside0.mk hr
 have HT := Aside0.mk hT
 have HEb := Aside0.mk (endJ_b l)
 have HKI := Aside0.mk (ksG_in l)
 have HKL := Aside0.mk (ksG_len l)
 have HJo := Aside0.mk (jobsAt_okN hz (ksG_in l))
 have HJl := Aside0.mk (jobsAt_len l (ksG l))
 have HRi := Aside0.mk (runE_in (jobsAt l (ksG l)) (endJ l) workJ)
 have HRl : Aside0 ((runE (jobsAt l (ksG l)) (endJ l) workJ).length ≤ 10000) := ⟨by
  unfold runE
  split
  ·rw [goE_len]; omega
  ·simp⟩
 have HKd : Aside0 (ksG l = sortL (keptL l)) := ⟨rfl⟩
 have HJd : Aside0 (jobsAt l (ksG l) = (ksG l).map fun i => rd_T45 l i) := ⟨rfl⟩
 clear hT hr hz hg
 generalize endJ l = E at *
 generalize keptL l = kp at *
 generalize ksG l = ks at *
 generalize jobsAt l ks = js at *
 have CR := Aside0.mk (fun (w : World) (hb : RowKit.Below W.heap.size W w) (A5 : Option Addr) (c5 : Nat) (hr : Kd.C k45 w A5 js.length js) (hc : js.length ≤ c5) => edfRun_c A5 c5 js E w (tab_below HT.out hb) hr hc (by rw [HJl.out]; have := HKL.out; omega) (fun x hx => by have h := HJo.out x hx; show _ ≤ PGd.lim; unfold PGd.lim; omega) (by have := HEb.out; omega))
 generalize runE js E workJ = ru at *
 go_enter Tryz.func10, Tryz.ntmps10
 go_upto_region 3 with (go_at_call 20; (with_reducible refine (CA.out).mono ?_); rintro e w1 ⟨rfl, hb⟩; have HB1 := Aside0.mk hb; clear hb)
 go_upto_region 4 with (go_at_call 25; (with_reducible refine (CK.out _ HB1.out).mono ?_); rintro e w2 ⟨v2, rfl, ho, hb⟩; obtain ⟨Ak, ck, rfl⟩ := Kd.R_slice ho; have HO2 := Aside0.mk ho; have HB2 := Aside0.mk hb; clear ho hb)
 obtain ⟨nk, hnk⟩ : ∃ nk, nk = kp.length := ⟨_, rfl⟩
 rw [← hnk] at HO2 ⊢
 have HNk : Aside0 (nk = ks.length) := ⟨by rw [HKd.out, sortL_len]; exact hnk⟩
 clear hnk
 have CS := Aside0.mk (sortI_c w1 w2 Ak nk ck kp HO2.out HB2.out (by have := HNk.out; have := HKL.out; omega))
 rw [← HKd.out] at CS
 clear HO2 CK CA
 go_upto_region 5 with (go_at_call 26; (with_reducible refine (CS.out).mono ?_); rintro e w3 ⟨rfl, ho, hb⟩; have HK3 := Aside0.mk (Kd.R_reads' ho); have HB3 := Aside0.mk (below_step HB1.out hb); clear ho hb)
 have HKC : Aside0 (Kd.C (Kd.int .i64) w3 Ak nk ks) := ⟨by have h := HK3.out.2.2; have e := HNk.out; rw [← e] at h; exact h⟩
 clear HK3 CS HB2
 have HB0 : Aside0 (RowKit.Below w3.heap.size w3 w3) := ⟨Below.refl _ _⟩
 go_wp2
 go_loopg [5, 20] nk (fun f v5 v20 wr => ∃ (i : Int) (s : List Jb), v20 = .int .i64 i ∧ 0 ≤ i ∧ i + f = nk ∧ Aside0 (Kd.R k45 45 wr w3.heap.size (fun _ => True) v5 s) ∧ Aside0 (RowKit.Below w3.heap.size w3 wr) ∧ Aside0 (js = s ++ (ks.drop i.toNat).map fun i => rd_T45 l i) ∧ Aside0 ((s.length : Int) ≤ i))
 case atStart => exact ⟨0, [], rfl, by omega, by omega, ⟨Kd.R_nil _ _ _ _ _⟩, HB0, ⟨HJd.out⟩, ⟨by simp⟩⟩
 case round =>
  clear HB0
  obtain ⟨i, s, rfl, hi0, hin, HSo, HB4, HE, HL⟩ := hrel
  obtain ⟨As, cs, rfl⟩ := Kd.R_slice HSo.out
  by_cases hlt : i < nk
  ·obtain ⟨f, rfl⟩ : ∃ f, gk = f + 1 := ⟨gk - 1, by omega⟩
   obtain ⟨ao, rfl, hco⟩ := Kd.at_int (Kd.C_below HKC.out HB4.out) i (by omega) (by omega)
   have hjm : rd ks i ∈ ks := rd_mem _ _ hi0 (by have := HNk.out; omega)
   have hIx := HKI.out _ hjm
   have hD : ks.drop i.toNat = rd ks i :: ks.drop (i.toNat + 1) := by have h := rd_at ks i.toNat (by have := HNk.out; omega); rwa [show ((i.toNat : Nat) : Int) = i by omega] at h
   obtain ⟨a, rfl, q0, q1, q2, q3, q4, q5, q6, q7⟩ := at_T45 (Kd.C_below HR.out (below_step HB3.out HB4.out)) (rd ks i) hIx.1 hIx.2
   have HE2 : Aside0 (js = (s ++ [rd_T45 l (rd ks i)]) ++ (ks.drop (i.toNat + 1)).map fun i => rd_T45 l i) := ⟨by rw [HE.out, hD, List.map_cons, List.append_assoc, List.singleton_append]⟩
   have HNl : Aside0 (nk ≤ l.length) := ⟨by have := HNk.out; have := HKL.out; omega⟩
   obtain ⟨hx0, hx1⟩ := hIx
   clear hjm hD HE
   generalize rd ks i = j at *
   generalize rd_T45 l j = x at *
   go_wp2_with (first | ((with_reducible refine gate_builtin (b := .append) (xs := #[.tmp 24, .tmp 29]) rfl ?_); at_builtin; refine Kd.R_append k45 (w0 := w3) w3.heap.size rfl (.tmp 24) (.tmp 29) 22 45 (.agg #[(.string ⟨#[]⟩), (.int .i64 0), (.int .i64 0), (.int .i64 0), (.int .i64 0), (.int .i64 0), (.int .i64 0), (.bool false)]) 72 rfl Tryz.underlying22 info45 rfl (by decide) (by omega) (.slice As s.length cs) s x [.string x.f0, .int .i64 x.f1, .int .i64 x.f2, .int .i64 x.f3, .int .i64 x.f4, .int .i64 x.f5, .int .i64 x.f6, .bool x.f7] (fun _ => True) (fun _ => False) rfl (by first | (go_simp; done) | (go_simp; rfl)) (k45_mkM _ _ _ x) (fun _ hk => hk.elim) (fun _ _ => trivial) HSo.out HB4.out (below_size HB4.out) (by have := HL.out; have := HNl.out; omega) ?_; intro v6 w6 ho hb hg hat; have HS6 := Aside0.mk ho; have HB6 := Aside0.mk hb; clear ho hb hg hat))
   go_roundg f
   case measure => omega
   case rel => exact ⟨i + 1, s ++ [x], congrArg (Value.int .i64) (w64 (i + 1) (by omega) (by have := HNl.out; omega)), by omega, by omega, HS6, HB6, ⟨by rw [show (i + 1).toNat = i.toNat + 1 by omega]; exact HE2.out⟩, ⟨by rw [List.length_append, List.length_singleton]; have := HL.out; omega⟩⟩
  ·obtain rfl : i = nk := by omega
   obtain rfl : s = js := by rw [HE.out, Int.toNat_natCast, List.drop_of_length_le (by have := HNk.out; omega)]; simp
   have HBx := Aside0.mk (below_step HB3.out HB4.out)
   have CE7 := Aside0.mk (CE.out wr HBx.out)
   have HSx := Aside0.mk (Kd.R_reads' HSo.out).2
   clear HE HSo
   go_upto_region 12 with (first | (go_at_call 28; (with_reducible refine (CE7.out).mono ?_); rintro e w7 ⟨rfl, hb⟩; have HB7 := Aside0.mk (below_step HBx.out hb); have HB7b := Aside0.mk (below_step HB4.out hb); have CR7 := Aside0.mk (CR.out w7 HB7.out As cs (Kd.C_below HSx.out.2 hb) HSx.out.1); clear hb) | (go_at_call 27; (with_reducible refine (CR7.out).mono ?_); rintro e w8 ⟨v8, rfl, ho, hb⟩; have HO8 := Aside0.mk ho; have HB8 := Aside0.mk hb; clear ho hb))
   obtain ⟨At, ct, rfl⟩ := Kd.R_slice HO8.out
   obtain ⟨n, hn⟩ : ∃ n, n = ru.length := ⟨_, rfl⟩
   rw [← hn] at HO8 ⊢
   have HNn := Aside0.mk hn
   have HKC8 := Aside0.mk (Kd.C_below HKC.out HB7b.out)
   clear hn CE CR CE7 CR7
   have HOz : Aside0 ((Kd.int .i64).R 3 w8 w7.heap.size (fun _ => True) (.slice At n ct) (backT ks (ru.take (0 : Int).toNat) ++ ru.drop (0 : Int).toNat)) := HO8
   have HBz := HB8
   clear HO8 HB8
   go_wp2
   go_loopg [38] n (fun f v38 wr => ∃ i : Int, v38 = .int .i64 i ∧ 0 ≤ i ∧ i + f = n ∧ Aside0 ((Kd.int .i64).R 3 wr w7.heap.size (fun _ => True) (.slice At n ct) (backT ks (ru.take i.toNat) ++ ru.drop i.toNat)) ∧ Aside0 (RowKit.Below w7.heap.size w7 wr))
   case atStart => exact ⟨0, rfl, by omega, by omega, HOz, HBz⟩
   case round =>
    clear HOz HBz
    obtain ⟨i, rfl, hi0, hin, HO, HBr⟩ := hrel
    by_cases hlt : i < n
    ·obtain ⟨f, rfl⟩ : ∃ f, gk = f + 1 := ⟨gk - 1, by omega⟩
     obtain ⟨G, rfl⟩ : ∃ G, At = some ⟨G, 0, none⟩ := by
      obtain ⟨_, ⟨e1, e2⟩ | ⟨G, cap', cur, e1, _⟩⟩ := Kd.own_of_R HO.out
      ·injection e1 with _ e1 _
       exact absurd e1 (by omega)
      ·injection e1 with e1 _ _
       exact ⟨G, e1⟩
     obtain ⟨hx0, hf0⟩ := Kd.R_celln 0 HO.out i hi0 hlt
     rw [back_at ks ru i hi0 (by have := HNn.out; omega)] at hx0
     have hru := HRi.out _ (rd_mem ru i hi0 (by have := HNn.out; omega))
     have HNx : Aside0 (n ≤ 10000) := ⟨by have := HNn.out; have := HRl.out; omega⟩
     by_cases hneg : rd ru i = -1
     ·have HO2 : Aside0 ((Kd.int .i64).R 3 wr w7.heap.size (fun _ => True) (.slice (some ⟨G, 0, none⟩) n ct) (backT ks (ru.take (i.toNat + 1)) ++ ru.drop (i.toNat + 1))) := ⟨by rw [back_keep ks ru i hi0 (by have := HNn.out; omega) hneg]; exact HO.out⟩
      rw [hneg] at hx0
      clear hneg HO hru
      go_wp2
      go_roundg f
      case measure => omega
      case rel => exact ⟨i + 1, congrArg (Value.int .i64) (w64 (i + 1) (by omega) (by have := HNx.out; omega)), by omega, by omega, ⟨by rw [show (i + 1).toNat = i.toNat + 1 by omega]; exact HO2.out⟩, HBr⟩
     ·have hj : 0 ≤ rd ru i ∧ rd ru i < (s.length : Int) := hru.resolve_left hneg
      have HBS := Aside0.mk (back_set ks ru i hi0 (by have := HNn.out; omega) hneg)
      have d1 : decide (rd ru i = -1) = false := decide_eq_false hneg
      have d2 : (rd ru i != -1) = true := by simp [hneg]
      have HG := Aside0.mk (Kd.R_base HO.out G rfl)
      have hjk : rd ru i < (nk : Int) := by have := HJl.out; have := HNk.out; omega
      obtain ⟨hj0, _⟩ := hj
      clear hru hneg
      generalize rd ru i = j at *
      obtain ⟨ak, rfl, hck⟩ := Kd.at_int (Kd.C_below HKC8.out HBr.out) j hj0 hjk
      generalize rd ks j = y at *
      have HP := Aside0.mk (Kd.R_putn HO.out i y)
      clear HO
      go_wp2
      go_roundg f
      case measure => omega
      case rel => exact ⟨i + 1, congrArg (Value.int .i64) (w64 (i + 1) (by omega) (by have := HNx.out; omega)), by omega, by omega, ⟨by have h := HP.out; have h2 := HBS.out; rw [h2] at h; rw [show (i + 1).toNat = i.toNat + 1 by omega]; exact h⟩, ⟨low_set HBr.out HG.out _ _⟩⟩
    ·obtain rfl : i = n := by omega
     have HE2 : Aside0 (greedyT l = backT ks (ru.take ((n : Int)).toNat) ++ ru.drop ((n : Int)).toNat) := ⟨by rw [HG.out, Int.toNat_natCast, List.take_of_length_le (by have := HNn.out; omega), List.drop_of_length_le (by have := HNn.out; omega), List.append_nil]⟩
     go_wp2
     go_ret2
     refine ⟨_, rfl, ?_, below_step HB7.out HBr.out⟩
     rw [HE2.out]
     exact Kd.R_lower HO.out (below_size HB7.out)

end Go.Proofs.YtobkfbkhcghaeaaGreatDoor.PRv
