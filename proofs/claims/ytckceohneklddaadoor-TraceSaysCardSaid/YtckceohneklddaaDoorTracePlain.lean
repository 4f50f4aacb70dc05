/- What jobs and traces are, in plain words (law9): what job.All, job.Work, trace.Good, Ran, DoneAt, MetBy, Value, Busy, Switches compute. -/
import Derived.Test.YtckceohneklddaaDoorPTrx5
namespace Go.Proofs.YtckceohneklddaaDoor.Pure
open Go.RowKit Go.Proofs.YtckceohneklddaaDoor.PTr Go.Proofs.YtckceohneklddaaDoorW.PrintWords Go.Proofs.YtckceohneklddaaDoorW.PrintLast Go.Proofs.YtckceohneklddaaDoorW.PrintMore Go.Proofs.YtckceohneklddaaDoor.PTr
set_option linter.unusedVariables false
set_option linter.unusedSimpArgs false

theorem w64 (x : Int) (h0 : -9223372036854775808 ≤ x) (h1 : x ≤ 9223372036854775807) : wrap64 x = x := by unfold wrap64; omega
theorem rd_at (t : List Int) (p : Nat) (h : p < t.length) : t.drop p = rd t (p : Int) :: t.drop (p + 1) := by
  rw [List.drop_eq_getElem_cons h]
  unfold rd
  rw [show ((p : Int).toNat) = p by omega, List.getD_eq_getElem?_getD, List.getElem?_eq_getElem h]
  rfl
theorem rd_mem (t : List Int) (i : Int) (h0 : 0 ≤ i) (h : i < t.length) : rd t i ∈ t := by
  unfold rd
  rw [List.getD_eq_getElem?_getD, List.getElem?_eq_getElem (by omega)]
  exact List.getElem_mem _
theorem rdJ_mem (l : List S44) (i : Int) (h0 : 0 ≤ i) (h : i < l.length) : rd_T44 l i ∈ l := by
  unfold rd_T44
  rw [List.getD_eq_getElem?_getD, List.getElem?_eq_getElem (by omega)]
  exact List.getElem_mem _
theorem rd_set (t : List Int) (i : Int) (v : Int) (h0 : 0 ≤ i) (h : i < t.length) : rd (t.set i.toNat v) i = v := by
  unfold rd
  rw [List.getD_eq_getElem?_getD, List.getElem?_set_self (by omega)]
  rfl
abbrev Jb := S44
def okN (l : List Jb) : Prop := ∀ t ∈ l, t.f0.size ≤ 100
def allJ (l : List Jb) : Bool := decide (l.length ≤ 200) && l.all goodJ
theorem All_is (l : List Jb) (h : okN l) : job_All.f l = some (allJ l) := by
  unfold job_All.f allJ
  have e : cfJob.f l () = some (l.any fun t => !goodJ t) := by
    unfold cfJob.f
    rw [if_pos]
    rw [List.all_eq_true]
    intro t ht
    have := h t ht
    rw [decide_eq_true_iff]
    show _ ≤ 4398046511104
    omega
  by_cases c : l.length ≤ 200
  · rw [if_pos (by omega), e, decide_eq_true c]
    simp only [Option.bind_some, Bool.true_and]
    congr 1
    rw [List.all_eq_not_any_not]
  · rw [if_neg (by omega), decide_eq_false c]
    rfl
def workJ (t : Jb) : Int := if goodJ t = true then (if t.f4 ≤ t.f3 then t.f4 else t.f3 + t.f6) else 0
theorem goodJ_b {t : Jb} (h : goodJ t = true) : 0 ≤ t.f1 ∧ t.f1 < t.f2 ∧ t.f2 ≤ 10000 ∧ 1 ≤ t.f3 ∧ t.f3 ≤ 1000 ∧ 1 ≤ t.f4 ∧ t.f4 ≤ 1000 ∧ 0 ≤ t.f5 ∧ t.f5 ≤ 1000000 ∧ 0 ≤ t.f6 ∧ t.f6 ≤ 100 := by
  unfold goodJ goodJB at h
  rw [Bool.and_eq_true, decide_eq_true_iff] at h
  exact h.2
theorem workJ_b (t : Jb) : 0 ≤ workJ t ∧ workJ t ≤ 1100 := by
  unfold workJ
  split
  · rename_i h
    have := goodJ_b h
    split <;> omega
  · omega
theorem workJ_pos {t : Jb} (h : goodJ t = true) : 1 ≤ workJ t := by
  unfold workJ
  rw [if_pos h]
  have := goodJ_b h
  split <;> omega
theorem goodf_is (t : Jb) (h : t.f0.size ≤ 100) : job_Good.f t.f0 t.f1 t.f2 t.f3 t.f4 t.f5 t.f6 t.f7 = some (goodJ t) := by
  unfold job_Good.f
  rw [if_pos (show t.f0.size ≤ lim from Nat.le_trans h (by decide))]
  rfl
theorem Work_is (t : Jb) (h : t.f0.size ≤ 100) : job_Work.f t.f0 t.f1 t.f2 t.f3 t.f4 t.f5 t.f6 t.f7 = some (workJ t) := by
  unfold job_Work.f workJ
  rw [goodf_is t h]
  simp only [Option.bind_some]
  cases hg : goodJ t
  · simp
  · have := goodJ_b hg
    simp only [if_true, job_Runs.f, Option.bind_some, decide_eq_true_eq]
    split
    · rfl
    · rw [w64 _ (by omega) (by omega)]
-- may a trace be?
def goodL (l : List Jb) : List Int → List Int → Nat → Bool
  | _, [], _ => true
  | ran, i :: t, k => if i = -1 then goodL l ran t (k + 1) else
      (decide (0 ≤ i) && decide (i < l.length) && decide ((rd_T44 l i).f1 ≤ k) && decide ((k : Int) < (rd_T44 l i).f2) && decide (rd ran i < workJ (rd_T44 l i))) && goodL l (ran.set i.toNat (rd ran i + 1)) t (k + 1)
theorem Good_l0 (l : List Jb) (hl : okN l) (t : List Int) (hb : t.length ≤ 1000000) : ∀ d p k ran, p + d = t.length → d < k → ran.length = l.length → (∀ x ∈ ran, 0 ≤ x) →
    trace_Good.l0 k l ran t t.length p = some (goodL l ran (t.drop p) p) := by
  intro d
  induction d with
  | zero =>
    intro p k ran hp hk hr hn
    obtain ⟨k, rfl⟩ : ∃ k', k = k' + 1 := ⟨k - 1, by omega⟩
    unfold trace_Good.l0
    rw [if_neg (by omega), List.drop_of_length_le (by omega)]
    rfl
  | succ d ih =>
    intro p k ran hp hk hr hn
    obtain ⟨k, rfl⟩ : ∃ k', k = k' + 1 := ⟨k - 1, by omega⟩
    unfold trace_Good.l0
    rw [rd_at t p (by omega), if_pos (by omega), if_pos (by omega), if_pos (by omega), w64 ((p : Int) + 1) (by omega) (by omega), show (p : Int) + 1 = ((p + 1 : Nat) : Int) by omega]
    unfold goodL
    generalize rd t (p : Int) = i
    by_cases c1 : i = -1
    · rw [if_pos c1, if_pos c1]
      exact ih (p + 1) k ran (by omega) (by omega) hr hn
    rw [if_neg c1, if_neg c1]
    by_cases c2 : i < 0
    · rw [if_pos c2, decide_eq_false (by omega : ¬ 0 ≤ i)]; rfl
    rw [if_neg c2, decide_eq_true (by omega : 0 ≤ i)]
    by_cases c3 : i ≥ l.length
    · rw [if_pos c3, decide_eq_false (by omega : ¬ i < l.length)]; rfl
    rw [if_neg c3, if_pos (by omega), if_pos (by omega), decide_eq_true (by omega : i < l.length)]
    by_cases c4 : (p : Int) < (rd_T44 l i).f1
    · rw [if_pos c4, decide_eq_false (by omega : ¬ (rd_T44 l i).f1 ≤ p)]; rfl
    rw [if_neg c4, decide_eq_true (by omega : (rd_T44 l i).f1 ≤ p)]
    by_cases c5 : (p : Int) ≥ (rd_T44 l i).f2
    · rw [if_pos c5, decide_eq_false (by omega : ¬ (p : Int) < (rd_T44 l i).f2)]; rfl
    rw [if_neg c5, decide_eq_true (by omega : (p : Int) < (rd_T44 l i).f2), if_pos (by omega), Work_is _ (hl _ (rdJ_mem l i (by omega) (by omega)))]
    simp only [Option.bind_some, Bool.true_and]
    have hw := workJ_b (rd_T44 l i)
    have h0 := hn _ (rd_mem ran i (by omega) (by omega))
    by_cases c6 : rd ran i ≥ workJ (rd_T44 l i)
    · rw [if_pos c6, decide_eq_false (by omega)]; rfl
    rw [if_neg c6, decide_eq_true (by omega), w64 _ (by omega) (by omega), Bool.true_and]
    refine ih (p + 1) k _ (by omega) (by omega) (by simp [hr]) ?_
    intro x hx
    rcases List.mem_or_eq_of_mem_set hx with h | h
    · exact hn x h
    · omega
def goodT (l : List Jb) (t : List Int) : Bool := allJ l && decide (t.length ≤ 10000) && goodL l (List.replicate l.length 0) t 0
theorem Good_is (l : List Jb) (hl : okN l) (t : List Int) (k : Nat) (hb : t.length ≤ 1000000) (hk : t.length + 3 ≤ k) : trace_Good.f k l t = some (goodT l t) := by
  obtain ⟨k, rfl⟩ : ∃ k', k = k' + 1 := ⟨k - 1, by omega⟩
  unfold trace_Good.f goodT
  rw [All_is l hl]
  simp only [Option.bind_some]
  cases ha : allJ l
  · simp [trace_Good.j0]
  have hn : l.length ≤ 200 := by
    unfold allJ at ha
    rw [Bool.and_eq_true, decide_eq_true_iff] at ha
    exact ha.1
  rw [if_pos rfl]
  unfold trace_Good.j0
  dsimp only
  by_cases c : t.length ≤ 10000
  · rw [decide_eq_false (by omega : ¬ (t.length : Int) > 10000), decide_eq_true c, if_neg (by simp), if_pos (by omega), if_pos (by omega), Int.toNat_natCast]
    have := Good_l0 l hl t hb t.length 0 k (List.replicate l.length 0) (by omega) (by omega) (by simp) (fun x hx => by have := List.eq_of_mem_replicate hx; omega)
    rw [Int.natCast_zero] at this
    rw [this, List.drop_zero]
    rfl
  · rw [decide_eq_true (by omega : (t.length : Int) > 10000), decide_eq_false c]
    rfl
-- how often a number stands in a row
def cntN (i : Int) (t : List Int) : Nat := t.countP fun x => decide (x = i)
def busyN (t : List Int) : Nat := t.countP fun x => !decide (x = -1)
theorem Ran_l0 (i : Int) (t : List Int) (hb : t.length ≤ 1000000) : ∀ d p k (n : Nat), p + d = t.length → d < k → n ≤ p →
    trace_Ran.l0 k i n t t.length p = some ((n + cntN i (t.drop p) : Nat) : Int) := by
  intro d
  induction d with
  | zero =>
    intro p k n hp hk hn
    obtain ⟨k, rfl⟩ : ∃ k', k = k' + 1 := ⟨k - 1, by omega⟩
    unfold trace_Ran.l0
    rw [if_neg (by omega), List.drop_of_length_le (by omega)]
    rfl
  | succ d ih =>
    intro p k n hp hk hn
    obtain ⟨k, rfl⟩ : ∃ k', k = k' + 1 := ⟨k - 1, by omega⟩
    unfold trace_Ran.l0
    rw [rd_at t p (by omega), if_pos (by omega), if_pos (by omega), if_pos (by omega), w64 ((p : Int) + 1) (by omega) (by omega), show (p : Int) + 1 = ((p + 1 : Nat) : Int) by omega]
    unfold cntN
    rw [List.countP_cons]
    by_cases c : rd t (p : Int) = i
    · rw [if_pos c, w64 _ (by omega) (by omega), show (n : Int) + 1 = ((n + 1 : Nat) : Int) by omega, ih (p + 1) k (n + 1) (by omega) (by omega) (by omega), if_pos (by simpa using c)]
      unfold cntN
      congr 2
      omega
    · rw [if_neg c, ih (p + 1) k n (by omega) (by omega) (by omega), if_neg (by simpa using c)]
      rfl
theorem Ran_is (i : Int) (t : List Int) (k : Nat) (hb : t.length ≤ 1000000) (hk : t.length < k) : trace_Ran.f k t i = some (cntN i t : Int) := by
  have := Ran_l0 i t hb t.length 0 k 0 (by omega) hk (by omega)
  rw [Nat.zero_add, List.drop_zero] at this
  exact this
theorem Busy_l0 (t : List Int) (hb : t.length ≤ 1000000) : ∀ d p k (n : Nat), p + d = t.length → d < k → n ≤ p →
    trace_Busy.l0 k n t t.length p = some ((n + busyN (t.drop p) : Nat) : Int) := by
  intro d
  induction d with
  | zero =>
    intro p k n hp hk hn
    obtain ⟨k, rfl⟩ : ∃ k', k = k' + 1 := ⟨k - 1, by omega⟩
    unfold trace_Busy.l0
    rw [if_neg (by omega), List.drop_of_length_le (by omega)]
    rfl
  | succ d ih =>
    intro p k n hp hk hn
    obtain ⟨k, rfl⟩ : ∃ k', k = k' + 1 := ⟨k - 1, by omega⟩
    unfold trace_Busy.l0
    rw [rd_at t p (by omega), if_pos (by omega), if_pos (by omega), if_pos (by omega), w64 ((p : Int) + 1) (by omega) (by omega), show (p : Int) + 1 = ((p + 1 : Nat) : Int) by omega]
    unfold busyN
    rw [List.countP_cons]
    by_cases c : rd t (p : Int) = -1
    · rw [if_pos c, ih (p + 1) k n (by omega) (by omega) (by omega), if_neg (by simpa using c)]
      rfl
    · rw [if_neg c, w64 _ (by omega) (by omega), show (n : Int) + 1 = ((n + 1 : Nat) : Int) by omega, ih (p + 1) k (n + 1) (by omega) (by omega) (by omega), if_pos (by simpa using c)]
      unfold busyN
      congr 2
      omega
theorem Busy_is (t : List Int) (k : Nat) (hb : t.length ≤ 1000000) (hk : t.length < k) : trace_Busy.f k t = some (busyN t : Int) := by
  have := Busy_l0 t hb t.length 0 k 0 (by omega) hk (by omega)
  rw [Nat.zero_add, List.drop_zero] at this
  exact this
theorem busy_cnt (t : List Int) : busyN t + cntN (-1) t = t.length := by
  unfold busyN cntN
  induction t with
  | nil => rfl
  | cons x t ih =>
    rw [List.countP_cons, List.countP_cons, List.length_cons]
    by_cases c : x = -1
    · rw [if_neg (by simpa using c), if_pos (by simpa using c)]; omega
    · rw [if_pos (by simpa using c), if_neg (by simpa using c)]; omega
-- behind which tick a job is done
def doneL (i : Int) : Int → List Int → Nat → Option Nat
  | _, [], _ => none
  | left, x :: t, k => if x = i then (if left - 1 = 0 then some (k + 1) else doneL i (left - 1) t (k + 1)) else (if left = 0 then some (k + 1) else doneL i left t (k + 1))
def resD : Option Nat → Int × Bool
  | none => (0, false)
  | some a => ((a : Int), true)
theorem DoneAt_l0 (i : Int) (t : List Int) (hb : t.length ≤ 1000000) : ∀ d p k (left : Int), p + d = t.length → d < k → 1 ≤ left → left ≤ 2000 →
    trace_DoneAt.l0 k i left t t.length p = some (resD (doneL i left (t.drop p) p)) := by
  intro d
  induction d with
  | zero =>
    intro p k left hp hk _ _
    obtain ⟨k, rfl⟩ : ∃ k', k = k' + 1 := ⟨k - 1, by omega⟩
    unfold trace_DoneAt.l0
    rw [if_neg (by omega), List.drop_of_length_le (by omega)]
    rfl
  | succ d ih =>
    intro p k left hp hk h0 h1
    obtain ⟨k, rfl⟩ : ∃ k', k = k' + 1 := ⟨k - 1, by omega⟩
    unfold trace_DoneAt.l0
    rw [rd_at t p (by omega), if_pos (by omega), if_pos (by omega), if_pos (by omega), w64 ((p : Int) + 1) (by omega) (by omega), show (p : Int) + 1 = ((p + 1 : Nat) : Int) by omega, w64 (left - 1) (by omega) (by omega)]
    unfold doneL
    by_cases c : rd t (p : Int) = i
    · rw [if_pos c, if_pos c]
      by_cases c2 : left - 1 = 0
      · rw [if_pos c2, if_pos c2]; rfl
      · rw [if_neg c2, if_neg c2]
        exact ih (p + 1) k (left - 1) (by omega) (by omega) (by omega) (by omega)
    · rw [if_neg c, if_neg c]
      by_cases c2 : left = 0
      · rw [if_pos c2, if_pos c2]; rfl
      · rw [if_neg c2, if_neg c2]
        exact ih (p + 1) k left (by omega) (by omega) (by omega) (by omega)
def doneJ (l : List Jb) (t : List Int) (i : Int) : Option Nat := if 0 ≤ i ∧ i < l.length ∧ allJ l = true then doneL i (workJ (rd_T44 l i)) t 0 else none
theorem allJ_at {l : List Jb} (h : allJ l = true) (i : Int) (h0 : 0 ≤ i) (h1 : i < l.length) : goodJ (rd_T44 l i) = true := by
  unfold allJ at h
  rw [Bool.and_eq_true, List.all_eq_true] at h
  exact h.2 _ (rdJ_mem l i h0 h1)
theorem DoneAt_is (l : List Jb) (hl : okN l) (t : List Int) (i : Int) (k : Nat) (hb : t.length ≤ 1000000) (hk : t.length + 2 ≤ k) : trace_DoneAt.f k l t i = some (resD (doneJ l t i)) := by
  obtain ⟨k, rfl⟩ : ∃ k', k = k' + 1 := ⟨k - 1, by omega⟩
  unfold trace_DoneAt.f doneJ
  by_cases c0 : i < 0
  · rw [if_pos c0, if_neg (by omega)]
    unfold trace_DoneAt.j0
    rfl
  rw [if_neg c0]
  by_cases c1 : i ≥ l.length
  · rw [if_pos c1, if_neg (by omega)]
    unfold trace_DoneAt.j0
    rfl
  rw [if_neg c1, All_is l hl]
  simp only [Option.bind_some]
  cases ha : allJ l
  · rw [if_neg (by simp)]
    unfold trace_DoneAt.j0
    rfl
  rw [if_pos ⟨by omega, by omega, rfl⟩]
  unfold trace_DoneAt.j0
  dsimp only
  rw [if_neg (by simp), if_pos (by omega), if_pos (by omega), Work_is _ (hl _ (rdJ_mem l i (by omega) (by omega)))]
  simp only [Option.bind_some]
  have hw := workJ_b (rd_T44 l i)
  have hp := workJ_pos (allJ_at ha i (by omega) (by omega))
  have := DoneAt_l0 i t hb t.length 0 k (workJ (rd_T44 l i)) (by omega) (by omega) hp (by omega)
  rw [Int.natCast_zero] at this
  rw [this, List.drop_zero]
def metJ (l : List Jb) (t : List Int) (i : Int) : Bool := match doneJ l t i with
  | none => false
  | some a => decide ((a : Int) ≤ (rd_T44 l i).f2) && decide ((rd_T44 l i).f4 ≤ (rd_T44 l i).f3)
theorem doneJ_in {l : List Jb} {t : List Int} {i : Int} {a : Nat} (h : doneJ l t i = some a) : 0 ≤ i ∧ i < l.length ∧ allJ l = true := by
  unfold doneJ at h
  split at h
  · assumption
  · cases h
theorem MetBy_is (l : List Jb) (hl : okN l) (t : List Int) (i : Int) (k : Nat) (hb : t.length ≤ 1000000) (hk : t.length + 2 ≤ k) : trace_MetBy.f k l t i = some (metJ l t i) := by
  unfold trace_MetBy.f metJ
  rw [DoneAt_is l hl t i k hb hk]
  simp only [Option.bind_some]
  cases hd : doneJ l t i with
  | none => rfl
  | some a =>
    have hi := doneJ_in hd
    rw [if_pos (show (resD (some a)).2 = true from rfl), if_pos (by omega), if_pos (by omega)]
    by_cases c : (resD (some a)).1 ≤ (rd_T44 l i).f2
    · rw [if_pos c]
      have e := decide_eq_true (show (a : Int) ≤ (rd_T44 l i).f2 from c)
      dsimp only
      rw [e]
      rfl
    · rw [if_neg c]
      have e := decide_eq_false (show ¬ (a : Int) ≤ (rd_T44 l i).f2 from c)
      dsimp only
      rw [e]
      rfl
-- what a trace earns
def valL (l : List Jb) (met : Int → Bool) : Nat → Nat → Int → Int
  | 0, _, acc => acc
  | d + 1, i, acc => valL l met d (i + 1) (if met i = true then wrap64 (acc + (rd_T44 l i).f5) else acc)
theorem Value_l0 (l : List Jb) (hl : okN l) (hn : l.length ≤ 1000000) (t : List Int) (hb : t.length ≤ 1000000) : ∀ d i k (acc : Int), i + d = l.length → d + t.length + 2 < k →
    trace_Value.l0 k l t acc l.length i = some (valL l (metJ l t) d i acc) := by
  intro d
  induction d with
  | zero =>
    intro i k acc hp hk
    obtain ⟨k, rfl⟩ : ∃ k', k = k' + 1 := ⟨k - 1, by omega⟩
    unfold trace_Value.l0
    rw [if_neg (by omega)]
    rfl
  | succ d ih =>
    intro i k acc hp hk
    obtain ⟨k, rfl⟩ : ∃ k', k = k' + 1 := ⟨k - 1, by omega⟩
    unfold trace_Value.l0 valL
    rw [if_pos (by omega), MetBy_is l hl t i k hb (by omega)]
    simp only [Option.bind_some]
    rw [w64 ((i : Int) + 1) (by omega) (by omega), show (i : Int) + 1 = ((i + 1 : Nat) : Int) by omega]
    cases metJ l t i
    · rw [if_neg (by simp), if_neg (by simp)]
      exact ih (i + 1) k acc (by omega) (by omega)
    · rw [if_pos rfl, if_pos (by omega), if_pos (by omega), if_pos rfl]
      exact ih (i + 1) k _ (by omega) (by omega)
def valJ (l : List Jb) (t : List Int) : Int := valL l (metJ l t) l.length 0 0
theorem Value_is (l : List Jb) (hl : okN l) (hn : l.length ≤ 1000000) (t : List Int) (hb : t.length ≤ 1000000) (k : Nat) (hk : l.length + t.length + 2 < k) : trace_Value.f k l t = some (valJ l t) := by
  have := Value_l0 l hl hn t hb l.length 0 k 0 (by omega) hk
  exact this
-- how often another runs at once
def swB (t : List Int) (p : Int) : Bool := decide (rd t p ≠ rd t (p - 1)) && (decide (rd t p ≠ -1) && decide (rd t (p - 1) ≠ -1))
def swN (t : List Int) : Nat → Nat → Nat
  | 0, _ => 0
  | d + 1, p => (if swB t p = true then 1 else 0) + swN t d (p + 1)
theorem Switches_l0 (t : List Int) (hb : t.length ≤ 1000000) : ∀ d p k (n : Nat), p + d = t.length → 1 ≤ p → d < k → n ≤ p →
    trace_Switches.l0 k t n p = some ((n + swN t d p : Nat) : Int) := by
  intro d
  induction d with
  | zero =>
    intro p k n hp _ hk hn
    obtain ⟨k, rfl⟩ : ∃ k', k = k' + 1 := ⟨k - 1, by omega⟩
    unfold trace_Switches.l0
    rw [if_neg (by omega)]
    rfl
  | succ d ih =>
    intro p k n hp h1 hk hn
    obtain ⟨k, rfl⟩ : ∃ k', k = k' + 1 := ⟨k - 1, by omega⟩
    unfold trace_Switches.l0 swN swB
    rw [w64 ((p : Int) + 1) (by omega) (by omega), w64 ((p : Int) - 1) (by omega) (by omega), show (p : Int) + 1 = ((p + 1 : Nat) : Int) by omega, if_pos (by omega), if_pos (by omega), if_pos (by omega), if_pos (by omega)]
    by_cases c1 : rd t (p : Int) = rd t ((p : Int) - 1)
    · rw [if_pos c1, decide_eq_false (by simpa using c1), ih (p + 1) k n (by omega) (by omega) (by omega) (by omega)]
      simp
    rw [if_neg c1, decide_eq_true (by simpa using c1)]
    by_cases c2 : rd t (p : Int) = -1
    · rw [if_pos c2, decide_eq_false (by simpa using c2), ih (p + 1) k n (by omega) (by omega) (by omega) (by omega)]
      simp
    rw [if_neg c2, decide_eq_true (by simpa using c2)]
    by_cases c3 : rd t ((p : Int) - 1) = -1
    · rw [if_pos c3, decide_eq_false (by simpa using c3), ih (p + 1) k n (by omega) (by omega) (by omega) (by omega)]
      simp
    rw [if_neg c3, decide_eq_true (by simpa using c3), w64 _ (by omega) (by omega), show (n : Int) + 1 = ((n + 1 : Nat) : Int) by omega, ih (p + 1) k (n + 1) (by omega) (by omega) (by omega) (by omega)]
    simp only [Bool.and_self, if_true]
    congr 2
    omega
def swJ (t : List Int) : Nat := swN t (t.length - 1) 1
theorem Switches_is (t : List Int) (hb : t.length ≤ 1000000) (k : Nat) (hk : t.length < k) : trace_Switches.f k t = some (swJ t : Int) := by
  unfold trace_Switches.f swJ
  by_cases c : t.length = 0
  · obtain ⟨k, rfl⟩ : ∃ k', k = k' + 1 := ⟨k - 1, by omega⟩
    unfold trace_Switches.l0
    rw [if_neg (by omega), c]
    rfl
  · have := Switches_l0 t hb (t.length - 1) 1 k 0 (by omega) (by omega) (by omega) (by omega)
    rw [Nat.zero_add] at this
    exact this
-- the guards
def heavyB (l : List Jb) (m : Int) : Bool := decide ((l.length : Int) > m) || l.any fun t => decide (100 < t.f0.size)
theorem dropJ (l : List Jb) (p : Nat) (h : p < l.length) : l.drop p = rd_T44 l (p : Int) :: l.drop (p + 1) := by
  rw [List.drop_eq_getElem_cons h]
  unfold rd_T44
  rw [show ((p : Int).toNat) = p by omega, List.getD_eq_getElem?_getD, List.getElem?_eq_getElem h]
  rfl
theorem heavy_l0 (l : List Jb) (hn : l.length ≤ 1000000) : ∀ d p k, p + d = l.length → d < k →
    tocsinlaw9_heavy.l0 k l 10000 p = some ((l.drop p).any fun t => decide (100 < t.f0.size)) := by
  intro d
  induction d with
  | zero =>
    intro p k hp hk
    obtain ⟨k, rfl⟩ : ∃ k', k = k' + 1 := ⟨k - 1, by omega⟩
    unfold tocsinlaw9_heavy.l0
    rw [if_neg (by omega), List.drop_of_length_le (by omega)]
    rfl
  | succ d ih =>
    intro p k hp hk
    obtain ⟨k, rfl⟩ : ∃ k', k = k' + 1 := ⟨k - 1, by omega⟩
    unfold tocsinlaw9_heavy.l0
    rw [dropJ l p (by omega), if_pos (by omega), if_pos (by omega), List.any_cons, w64 ((p : Int) + 1) (by omega) (by omega), show (p : Int) + 1 = ((p + 1 : Nat) : Int) by omega]
    by_cases c : 100 < (rd_T44 l p).f0.size
    · rw [if_pos (by omega), decide_eq_true c]; rfl
    rw [if_neg (by omega), decide_eq_false c, Bool.false_or]
    by_cases c2 : (rd_T44 l p).f2 > 10000
    · rw [if_pos c2, if_neg (by omega)]
      exact ih (p + 1) k (by omega) (by omega)
    · rw [if_neg c2]
      exact ih (p + 1) k (by omega) (by omega)
theorem heavy_is (l : List Jb) (m : Int) (hm : m ≤ 1000) (k : Nat) (hk : 1001 < k) : tocsinlaw9_heavy.f k l m 10000 = some (heavyB l m) := by
  unfold tocsinlaw9_heavy.f heavyB
  by_cases c : (l.length : Int) > m
  · rw [if_pos c, decide_eq_true c]; rfl
  · rw [if_neg c, decide_eq_false c]
    exact heavy_l0 l (by omega) l.length 0 k (by omega) (by omega)
theorem heavy_no {l : List Jb} {m : Int} (h : heavyB l m = false) : (l.length : Int) ≤ m ∧ okN l := by
  unfold heavyB at h
  rw [Bool.or_eq_false_iff, decide_eq_false_iff_not, List.any_eq_false] at h
  refine ⟨by omega, fun t ht => ?_⟩
  have := h.2 t ht
  rw [decide_eq_true_iff] at this
  omega
theorem awake_k : tocsinlaw9_awake.f 20 = some true := by decide +kernel
theorem awake_is (k : Nat) (hk : 20 ≤ k) : tocsinlaw9_awake.f k = some true := by
  obtain ⟨d, rfl⟩ := Nat.exists_eq_add_of_le hk
  induction d with
  | zero => exact awake_k
  | succ d ih => exact tocsinlaw9_awake.mono (20 + d) _ (ih (by omega))

end Go.Proofs.YtckceohneklddaaDoor.Pure
