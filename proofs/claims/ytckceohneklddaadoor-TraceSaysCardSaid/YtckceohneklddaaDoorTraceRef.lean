/- What the document's own answers on traces compute (law9). -/
import Derived.Test.YtckceohneklddaaDoorPTrx8
import Derived.Test.YtckceohneklddaaDoorPTrx9
import Derived.Test.YtckceohneklddaaDoorTracePlain
import Derived.Lib.TrimUEq
import Derived.Lib.ValidLaws
namespace Go.Proofs.YtckceohneklddaaDoor.Pure
open Go.RowKit Go.Proofs.YtckceohneklddaaDoor.PTr Go.Proofs.YtckceohneklddaaDoorW.PrintWords Go.Proofs.YtckceohneklddaaDoorW.PrintLast Go.Proofs.YtckceohneklddaaDoorW.PrintMore Go.Proofs.YtckceohneklddaaDoor.PTr Go.Proofs.YtckceohneklddaaDoor.PGd
set_option linter.unusedVariables false
set_option linter.unusedSimpArgs false

open Go.Lib
def bL (s : ByteArray) : List UInt8 := s.data.toList
theorem bL_len (s : ByteArray) : (bL s).length = s.size := (Lib.size_eq s).symm
theorem goodF_valid (s : ByteArray) : ∀ f p n m, s.size ≤ p + f → p ≤ s.size → goodF (runesF s f p) n = some m → validD ((bL s).drop p) = true := by
  intro f
  have ends : ∀ p, p = s.size → validD ((bL s).drop p) = true := by
    rintro p rfl
    rw [List.drop_eq_nil_of_le (by rw [bL_len]; exact Nat.le_refl _)]
    rfl
  induction f with
  | zero => intro p n m h0 h1 _; exact ends p (by omega)
  | succ f ih =>
    intro p n m h0 h1 h
    by_cases hp : p < s.size
    · rw [runesF_step s f p hp] at h
      have hF := decode_fits s p hp
      have hK := Lib.decode_width_pos s p hp
      have hne : (bL s).drop p ≠ [] := by
        intro e
        have := congrArg List.length e
        rw [List.length_drop, bL_len] at this
        simp only [List.length_nil] at this
        omega
      rw [validD_step _ hne, show decodeL ((bL s).drop p) = Utf8.decode s p from decodeL_drop s p, List.drop_drop]
      simp only [goodF] at h
      split at h
      · rename_i hc
        have hr : (Utf8.decode s p).1 ≠ 65533 := by
          intro e
          rw [e] at hc
          simp only [Bool.or_eq_true, Bool.and_eq_true, decide_eq_true_eq] at hc
          rcases hc with hc | ⟨_, hc | hc⟩
          · exact (letter_not _ hc).1 rfl
          · simp [isDig] at hc
          · omega
        rw [if_neg (fun hx => hr hx.1)]
        exact ih (p + (Utf8.decode s p).2) _ m (by omega) (by omega) h
      · cases h
    · exact ends p (by omega)
theorem good_same (s : ByteArray) : goodB s = refName s := by
  unfold goodB refName
  cases hg : goodF (runes s) 0 with
  | none => simp
  | some n =>
    have hl := goodF_len _ _ _ hg
    have hv := goodF_valid s s.size 0 0 n (by omega) (Nat.zero_le _) hg
    rw [List.drop_zero] at hv
    rw [Nat.zero_add] at hl
    simp only [Option.isSome_some, Bool.and_true, hl]
    rw [show validD s.data.toList = true from hv, Bool.and_true]

abbrev Rb := S48
def toR (t : Jb) : Rb := ⟨t.f0, t.f1, t.f2, t.f3, t.f4, t.f5, t.f6, t.f7⟩
theorem rdR (l : List Jb) (i : Int) (h0 : 0 ≤ i) (h : i < l.length) : rd_T48 (l.map toR) i = toR (rd_T44 l i) := by
  unfold rd_T48 rd_T44
  rw [List.getD_eq_getElem?_getD, List.getD_eq_getElem?_getD, List.getElem?_map, List.getElem?_eq_getElem (by omega)]
  rfl
theorem own_l0 (l : List Jb) (hn : l.length ≤ 1000000) : ∀ d p k (m : List Rb), p + d = l.length → d < k → m.length = p →
    tocsinlaw9_own.l0 k l m p = some (m ++ (l.drop p).map toR) := by
  intro d
  induction d with
  | zero =>
    intro p k m hp hk hm
    obtain ⟨k, rfl⟩ : ∃ k', k = k' + 1 := ⟨k - 1, by omega⟩
    unfold tocsinlaw9_own.l0
    rw [if_neg (by omega), List.drop_of_length_le (by omega)]
    simp
  | succ d ih =>
    intro p k m hp hk hm
    obtain ⟨k, rfl⟩ : ∃ k', k = k' + 1 := ⟨k - 1, by omega⟩
    unfold tocsinlaw9_own.l0
    rw [if_pos (by omega), if_pos (by omega), if_pos (by omega), w64 ((p : Int) + 1) (by omega) (by omega), show (p : Int) + 1 = ((p + 1 : Nat) : Int) by omega]
    rw [ih (p + 1) k _ (by omega) (by omega) (by simp [hm]), dropJ l p (by omega), List.map_cons, List.append_assoc]
    rfl
theorem own_is (l : List Jb) (hn : l.length ≤ 1000000) (k : Nat) (hk : l.length < k) : tocsinlaw9_own.f k l = some (l.map toR) := by
  have := own_l0 l hn l.length 0 k [] (by omega) hk rfl
  rw [List.drop_zero, List.nil_append] at this
  exact this
theorem goodR_is (t : Jb) (h : t.f0.size ≤ 100) : tocsinref8_Good.f t.f0 t.f1 t.f2 t.f3 t.f4 t.f5 t.f6 t.f7 = some (goodJ t) := by
  unfold tocsinref8_Good.f tocsinref8_GoodName.f
  rw [if_pos (show t.f0.size ≤ PTr.lim from Nat.le_trans h (by decide)), Option.bind_some]
  unfold goodJ goodJB
  rw [good_same]
  cases refName t.f0
  · rfl
  · simp only [if_true, Bool.true_and]
    repeat' split
    all_goals (congr 1; first | (symm; rw [decide_eq_false_iff_not]; omega) | (rw [decide_eq_decide]; omega))
theorem WorkR_is (t : Jb) (h : t.f0.size ≤ 100) : tocsinref8_Work.f t.f0 t.f1 t.f2 t.f3 t.f4 t.f5 t.f6 t.f7 = some (workJ t) := by
  unfold tocsinref8_Work.f workJ
  rw [goodR_is t h, Option.bind_some]
  cases hg : goodJ t
  · rfl
  · have := goodJ_b hg
    rw [if_pos rfl, if_pos rfl]
    by_cases c : t.f4 ≤ t.f3
    · rw [if_neg (by omega), if_pos c]
    · rw [if_pos (by omega), if_neg c, w64 _ (by omega) (by omega)]
theorem AllR_l0 (l : List Jb) (hl : okN l) (hn : l.length ≤ 1000000) : ∀ d p k, p + d = l.length → d < k →
    tocsinref8_All.l0 k (l.map toR) p = some (decide (l.length ≤ 200) && (l.drop p).all goodJ) := by
  intro d
  induction d with
  | zero =>
    intro p k hp hk
    obtain ⟨k, rfl⟩ : ∃ k', k = k' + 1 := ⟨k - 1, by omega⟩
    unfold tocsinref8_All.l0
    rw [List.length_map, if_neg (by omega), List.drop_of_length_le (by omega)]
    simp only [List.all_nil, Bool.and_true]
    congr 1
    rw [decide_eq_decide]
    omega
  | succ d ih =>
    intro p k hp hk
    obtain ⟨k, rfl⟩ : ∃ k', k = k' + 1 := ⟨k - 1, by omega⟩
    unfold tocsinref8_All.l0
    rw [List.length_map, if_pos (by omega), if_pos (by omega), rdR l p (by omega) (by omega), w64 ((p : Int) + 1) (by omega) (by omega), show (p : Int) + 1 = ((p + 1 : Nat) : Int) by omega]
    have e := goodR_is (rd_T44 l p) (hl _ (rdJ_mem l p (by omega) (by omega)))
    show (tocsinref8_Good.f (rd_T44 l p).f0 (rd_T44 l p).f1 (rd_T44 l p).f2 (rd_T44 l p).f3 (rd_T44 l p).f4 (rd_T44 l p).f5 (rd_T44 l p).f6 (rd_T44 l p).f7).bind _ = _
    rw [e, Option.bind_some, dropJ l p (by omega), List.all_cons]
    cases goodJ (rd_T44 l p)
    · simp
    · rw [if_pos rfl, ih (p + 1) k (by omega) (by omega), Bool.true_and]
theorem AllR_is (l : List Jb) (hl : okN l) (hn : l.length ≤ 1000000) (k : Nat) (hk : l.length < k) : tocsinref8_All.f k (l.map toR) = some (allJ l) := by
  have := AllR_l0 l hl hn l.length 0 k (by omega) hk
  rw [List.drop_zero] at this
  exact this
theorem DoneR_l0 (l : List Jb) (hl : okN l) (i : Int) (hi0 : 0 ≤ i) (hi : i < l.length) (t : List Int) (hb : t.length ≤ 1000000) : ∀ d p k (n : Int), p + d = t.length → d < k → 0 ≤ n → n < workJ (rd_T44 l i) →
    tocsinref8_DoneAt.l0 k (l.map toR) t i n p = some (resD (doneL i (workJ (rd_T44 l i) - n) (t.drop p) p)) := by
  have hw := workJ_b (rd_T44 l i)
  have e := WorkR_is (rd_T44 l i) (hl _ (rdJ_mem l i hi0 hi))
  generalize workJ (rd_T44 l i) = W at *
  intro d
  induction d with
  | zero =>
    intro p k n hp hk h0 h1
    obtain ⟨k, rfl⟩ : ∃ k', k = k' + 1 := ⟨k - 1, by omega⟩
    unfold tocsinref8_DoneAt.l0
    rw [if_neg (by omega), List.drop_of_length_le (by omega)]
    rfl
  | succ d ih =>
    intro p k n hp hk h0 h1
    obtain ⟨k, rfl⟩ : ∃ k', k = k' + 1 := ⟨k - 1, by omega⟩
    unfold tocsinref8_DoneAt.l0
    rw [rd_at t p (by omega), if_pos (by omega), if_pos (by omega), w64 ((p : Int) + 1) (by omega) (by omega), show (p : Int) + 1 = ((p + 1 : Nat) : Int) by omega, w64 (n + 1) (by omega) (by omega)]
    unfold doneL
    by_cases c : rd t (p : Int) = i
    · rw [if_pos c, if_pos c, if_pos (by omega), if_pos (by rw [List.length_map]; omega), rdR l i hi0 hi]
      show (tocsinref8_Work.f (rd_T44 l i).f0 (rd_T44 l i).f1 (rd_T44 l i).f2 (rd_T44 l i).f3 (rd_T44 l i).f4 (rd_T44 l i).f5 (rd_T44 l i).f6 (rd_T44 l i).f7).bind _ = _
      rw [e, Option.bind_some]
      by_cases c2 : n + 1 = W
      · rw [if_pos c2, if_pos (by omega)]; rfl
      · rw [if_neg c2, if_neg (by omega), ih (p + 1) k (n + 1) (by omega) (by omega) (by omega) (by omega), show W - (n + 1) = W - n - 1 by omega]
    · rw [if_neg c, if_neg c, if_neg (by omega)]
      exact ih (p + 1) k n (by omega) (by omega) h0 h1
theorem DoneR_is (l : List Jb) (hl : okN l) (hn : l.length ≤ 1000000) (t : List Int) (i : Int) (k : Nat) (hb : t.length ≤ 1000000) (hk : t.length + l.length + 3 ≤ k) : tocsinref8_DoneAt.f k (l.map toR) t i = some (resD (doneJ l t i)) := by
  obtain ⟨k, rfl⟩ : ∃ k', k = k' + 1 := ⟨k - 1, by omega⟩
  unfold tocsinref8_DoneAt.f doneJ
  rw [List.length_map]
  by_cases c0 : i < 0
  · rw [if_pos c0, if_neg (by omega)]
    unfold tocsinref8_DoneAt.j0
    rfl
  rw [if_neg c0]
  by_cases c1 : i ≥ l.length
  · rw [if_pos c1, if_neg (by omega)]
    unfold tocsinref8_DoneAt.j0
    rfl
  rw [if_neg c1, AllR_is l hl hn _ (by omega), Option.bind_some]
  cases ha : allJ l
  · rw [if_neg (by simp)]
    unfold tocsinref8_DoneAt.j0
    rfl
  rw [if_pos ⟨by omega, by omega, rfl⟩]
  unfold tocsinref8_DoneAt.j0
  dsimp only
  rw [if_neg (by simp)]
  have hp := workJ_pos (allJ_at ha i (by omega) (by omega))
  have := DoneR_l0 l hl i (by omega) (by omega) t hb t.length 0 k 0 (by omega) (by omega) (by omega) (by omega)
  rw [Int.natCast_zero, Int.sub_zero] at this
  rw [this, List.drop_zero]
theorem MetR_is (l : List Jb) (hl : okN l) (hn : l.length ≤ 1000000) (t : List Int) (i : Int) (k : Nat) (hb : t.length ≤ 1000000) (hk : t.length + l.length + 3 ≤ k) : tocsinref8_MetBy.f k (l.map toR) t i = some (metJ l t i) := by
  unfold tocsinref8_MetBy.f metJ
  rw [DoneR_is l hl hn t i k hb hk, Option.bind_some]
  cases hd : doneJ l t i with
  | none => rfl
  | some a =>
    have hi := doneJ_in hd
    rw [if_pos (show (resD (some a)).2 = true from rfl), if_pos (by omega), if_pos (by rw [List.length_map]; omega), rdR l i (by omega) (by omega)]
    by_cases c : (resD (some a)).1 ≤ (toR (rd_T44 l i)).f2
    · rw [if_pos c]
      have e := decide_eq_true (show (a : Int) ≤ (rd_T44 l i).f2 from c)
      dsimp only
      rw [e]
      rfl
    · rw [if_neg c]
      have e := decide_eq_false (show ¬ (a : Int) ≤ (rd_T44 l i).f2 from c)
      dsimp only
      rw [e]
      rfl
theorem ValueR_l0 (l : List Jb) (hl : okN l) (hn : l.length ≤ 1000000) (t : List Int) (hb : t.length ≤ 1000000) : ∀ d i k (acc : Int), i + d = l.length → d + t.length + l.length + 3 < k →
    tocsinref8_Value.l0 k (l.map toR) t acc i = some (valL l (metJ l t) d i acc) := by
  intro d
  induction d with
  | zero =>
    intro i k acc hp hk
    obtain ⟨k, rfl⟩ : ∃ k', k = k' + 1 := ⟨k - 1, by omega⟩
    unfold tocsinref8_Value.l0
    rw [List.length_map, if_neg (by omega)]
    rfl
  | succ d ih =>
    intro i k acc hp hk
    obtain ⟨k, rfl⟩ : ∃ k', k = k' + 1 := ⟨k - 1, by omega⟩
    unfold tocsinref8_Value.l0 valL
    rw [List.length_map, if_pos (by omega), MetR_is l hl hn t i k hb (by omega), Option.bind_some, rdR l i (by omega) (by omega)]
    rw [w64 ((i : Int) + 1) (by omega) (by omega), show (i : Int) + 1 = ((i + 1 : Nat) : Int) by omega]
    cases metJ l t i
    · rw [if_neg (by simp), if_neg (by simp)]
      exact ih (i + 1) k acc (by omega) (by omega)
    · rw [if_pos rfl, if_pos (by omega), if_pos rfl]
      exact ih (i + 1) k _ (by omega) (by omega)
theorem ValueR_is (l : List Jb) (hl : okN l) (hn : l.length ≤ 1000000) (t : List Int) (hb : t.length ≤ 1000000) (k : Nat) (hk : 2 * l.length + t.length + 3 < k) : tocsinref8_Value.f k (l.map toR) t = some (valJ l t) :=
  ValueR_l0 l hl hn t hb l.length 0 k 0 (by omega) (by omega)
theorem RanR_l0 (i : Int) (t : List Int) (hb : t.length ≤ 1000000) : ∀ d p k (n : Nat), p + d = t.length → d < k → n ≤ p →
    tocsinref8_Ran.l0 k t i n p = some ((n + cntN i (t.drop p) : Nat) : Int) := by
  intro d
  induction d with
  | zero =>
    intro p k n hp hk hn
    obtain ⟨k, rfl⟩ : ∃ k', k = k' + 1 := ⟨k - 1, by omega⟩
    unfold tocsinref8_Ran.l0
    rw [if_neg (by omega), List.drop_of_length_le (by omega)]
    rfl
  | succ d ih =>
    intro p k n hp hk hn
    obtain ⟨k, rfl⟩ : ∃ k', k = k' + 1 := ⟨k - 1, by omega⟩
    unfold tocsinref8_Ran.l0
    rw [rd_at t p (by omega), if_pos (by omega), if_pos (by omega), w64 ((p : Int) + 1) (by omega) (by omega), show (p : Int) + 1 = ((p + 1 : Nat) : Int) by omega]
    unfold cntN
    rw [List.countP_cons]
    by_cases c : rd t (p : Int) = i
    · rw [if_pos c, w64 _ (by omega) (by omega), show (n : Int) + 1 = ((n + 1 : Nat) : Int) by omega, ih (p + 1) k (n + 1) (by omega) (by omega) (by omega), if_pos (by simpa using c)]
      unfold cntN
      congr 2
      omega
    · rw [if_neg c, ih (p + 1) k n (by omega) (by omega) (by omega), if_neg (by simpa using c)]
      rfl
theorem RanR_is (i : Int) (t : List Int) (k : Nat) (hb : t.length ≤ 1000000) (hk : t.length < k) : tocsinref8_Ran.f k t i = some (cntN i t : Int) := by
  have := RanR_l0 i t hb t.length 0 k 0 (by omega) hk (by omega)
  rw [Nat.zero_add, List.drop_zero] at this
  exact this
theorem BusyR_is (t : List Int) (k : Nat) (hb : t.length ≤ 1000000) (hk : t.length < k) : tocsinref8_Busy.f k t = some (busyN t : Int) := by
  unfold tocsinref8_Busy.f
  have := busy_cnt t
  rw [RanR_is _ t k hb hk, Option.bind_some, w64 _ (by omega) (by omega)]
  congr 1
  omega
theorem SwitchesR_l0 (t : List Int) (hb : t.length ≤ 1000000) : ∀ d p k (n : Nat), p + d = t.length → 1 ≤ p → d < k → n ≤ p →
    tocsinref8_Switches.l0 k t n p = some ((n + swN t d p : Nat) : Int) := by
  intro d
  induction d with
  | zero =>
    intro p k n hp _ hk hn
    obtain ⟨k, rfl⟩ : ∃ k', k = k' + 1 := ⟨k - 1, by omega⟩
    unfold tocsinref8_Switches.l0
    rw [if_neg (by omega)]
    rfl
  | succ d ih =>
    intro p k n hp h1 hk hn
    obtain ⟨k, rfl⟩ : ∃ k', k = k' + 1 := ⟨k - 1, by omega⟩
    unfold tocsinref8_Switches.l0 swN swB
    rw [w64 ((p : Int) + 1) (by omega) (by omega), w64 ((p : Int) - 1) (by omega) (by omega), show (p : Int) + 1 = ((p + 1 : Nat) : Int) by omega, if_pos (by omega), if_pos (by omega), if_pos (by omega), if_pos (by omega)]
    by_cases c1 : rd t (p : Int) = rd t ((p : Int) - 1)
    · rw [if_pos c1, decide_eq_false (by simpa using c1), ih (p + 1) k n (by omega) (by omega) (by omega) (by omega)]
      simp
    rw [if_neg c1, decide_eq_true (by simpa using c1)]
    by_cases c2 : rd t (p : Int) = -1
    · rw [if_pos c2, decide_eq_false (by simpa using c2), ih (p + 1) k n (by omega) (by omega) (by omega) (by omega)]
      simp
    rw [if_neg c2, decide_eq_true (by simpa using c2)]
    by_cases c3 : rd t ((p : Int) - 1) = -1
    · rw [if_pos c3, decide_eq_false (by simpa using c3), ih (p + 1) k n (by omega) (by omega) (by omega) (by omega)]
      simp
    rw [if_neg c3, decide_eq_true (by simpa using c3), w64 _ (by omega) (by omega), show (n : Int) + 1 = ((n + 1 : Nat) : Int) by omega, ih (p + 1) k (n + 1) (by omega) (by omega) (by omega) (by omega)]
    simp only [Bool.and_self, if_true]
    congr 2
    omega
theorem SwitchesR_is (t : List Int) (hb : t.length ≤ 1000000) (k : Nat) (hk : t.length < k) : tocsinref8_Switches.f k t = some (swJ t : Int) := by
  unfold tocsinref8_Switches.f swJ
  by_cases c : t.length = 0
  · obtain ⟨k, rfl⟩ : ∃ k', k = k' + 1 := ⟨k - 1, by omega⟩
    unfold tocsinref8_Switches.l0
    rw [if_neg (by omega), c]
    rfl
  · have := SwitchesR_l0 t hb (t.length - 1) 1 k 0 (by omega) (by omega) (by omega) (by omega)
    rw [Nat.zero_add] at this
    exact this
def workSet (ran : List Int) (i : Int) : List Int := ran.set i.toNat (rd ran i + 1)
theorem GoodR_l0 (l : List Jb) (hl : okN l) (t : List Int) (hb : t.length ≤ 1000000) : ∀ d p k (ran : List Int), p + d = t.length → 2 * d < k → ran.length = l.length → (∀ x ∈ ran, 0 ≤ x ∧ x ≤ 1100) →
    tocsinref8_GoodTrace.l0 k (l.map toR) t ran p = some (goodL l ran (t.drop p) p) := by
  intro d
  induction d with
  | zero =>
    intro p k ran hp hk hr hn
    obtain ⟨k, rfl⟩ : ∃ k', k = k' + 1 := ⟨k - 1, by omega⟩
    unfold tocsinref8_GoodTrace.l0
    rw [if_neg (by omega), List.drop_of_length_le (by omega)]
    rfl
  | succ d ih =>
    intro p k ran hp hk hr hn
    obtain ⟨k, rfl⟩ : ∃ k', k = k' + 2 := ⟨k - 2, by omega⟩
    unfold tocsinref8_GoodTrace.l0
    rw [rd_at t p (by omega), if_pos (by omega), if_pos (by omega), w64 ((p : Int) + 1) (by omega) (by omega), show (p : Int) + 1 = ((p + 1 : Nat) : Int) by omega, List.length_map]
    unfold goodL
    generalize rd t (p : Int) = i
    have no : ∀ x7 : Int, tocsinref8_GoodTrace.j2 (k + 1) (l.map toR) t ran p x7 true = some false := by
      intro x7
      unfold tocsinref8_GoodTrace.j2
      rfl
    by_cases c1 : i = -1
    · rw [if_pos c1, if_pos c1]
      exact ih (p + 1) (k + 1) ran (by omega) (by omega) hr hn
    rw [if_neg c1, if_neg c1]
    by_cases c2 : i < 0
    · rw [if_pos c2, decide_eq_false (by omega : ¬ 0 ≤ i), no]; rfl
    rw [if_neg c2, decide_eq_true (by omega : 0 ≤ i)]
    by_cases c3 : i ≥ l.length
    · rw [if_pos c3, decide_eq_false (by omega : ¬ i < l.length), no]; rfl
    rw [if_neg c3, if_pos (by omega), if_pos (by omega), decide_eq_true (by omega : i < l.length), rdR l i (by omega) (by omega)]
    by_cases c4 : (p : Int) < (rd_T44 l i).f1
    · rw [if_pos (show (p : Int) < (toR (rd_T44 l i)).f1 from c4), decide_eq_false (by omega : ¬ (rd_T44 l i).f1 ≤ p), no]; rfl
    rw [if_neg (show ¬ (p : Int) < (toR (rd_T44 l i)).f1 from c4), decide_eq_true (by omega : (rd_T44 l i).f1 ≤ p)]
    by_cases c5 : (p : Int) ≥ (rd_T44 l i).f2
    · rw [decide_eq_true (show (p : Int) ≥ (toR (rd_T44 l i)).f2 from c5), decide_eq_false (by omega : ¬ (p : Int) < (rd_T44 l i).f2), no]; rfl
    rw [decide_eq_false (show ¬ (p : Int) ≥ (toR (rd_T44 l i)).f2 from c5), decide_eq_true (by omega : (p : Int) < (rd_T44 l i).f2)]
    have h0 := hn _ (rd_mem ran i (by omega) (by omega))
    have e := WorkR_is (rd_T44 l i) (hl _ (rdJ_mem l i (by omega) (by omega)))
    have hw := workJ_b (rd_T44 l i)
    unfold tocsinref8_GoodTrace.j2
    rw [if_neg (by simp), if_pos (by omega), if_pos (by omega), Option.bind_some, List.length_map, if_pos (by omega), rdR l i (by omega) (by omega)]
    show (tocsinref8_Work.f (rd_T44 l i).f0 (rd_T44 l i).f1 (rd_T44 l i).f2 (rd_T44 l i).f3 (rd_T44 l i).f4 (rd_T44 l i).f5 (rd_T44 l i).f6 (rd_T44 l i).f7).bind _ = _
    rw [e, Option.bind_some, w64 (rd ran i + 1) (by omega) (by omega), rd_set ran i _ (by omega) (by omega)]
    simp only [Bool.true_and]
    by_cases c6 : rd ran i + 1 > workJ (rd_T44 l i)
    · rw [if_pos c6, decide_eq_false (by omega)]; rfl
    rw [if_neg c6, decide_eq_true (by omega), Bool.true_and, w64 ((p : Int) + 1) (by omega) (by omega), show (p : Int) + 1 = ((p + 1 : Nat) : Int) by omega]
    refine ih (p + 1) k _ (by omega) (by omega) (by simp [hr]) ?_
    intro x hx
    rcases List.mem_or_eq_of_mem_set hx with h | h
    · exact hn x h
    · omega
theorem GoodR_is (l : List Jb) (hl : okN l) (hn : l.length ≤ 1000000) (t : List Int) (k : Nat) (hb : t.length ≤ 1000000) (hk : 2 * t.length + l.length + 4 ≤ k) : tocsinref8_GoodTrace.f k (l.map toR) t = some (goodT l t) := by
  obtain ⟨k, rfl⟩ : ∃ k', k = k' + 1 := ⟨k - 1, by omega⟩
  unfold tocsinref8_GoodTrace.f goodT
  rw [AllR_is l hl hn _ (by omega), Option.bind_some]
  cases ha : allJ l
  · rw [if_neg (by simp)]
    unfold tocsinref8_GoodTrace.j0
    rfl
  have hn : l.length ≤ 200 := by
    unfold allJ at ha
    rw [Bool.and_eq_true, decide_eq_true_iff] at ha
    exact ha.1
  rw [if_pos rfl]
  unfold tocsinref8_GoodTrace.j0
  dsimp only
  by_cases c : t.length ≤ 10000
  · rw [decide_eq_false (by omega : ¬ (t.length : Int) > 10000), decide_eq_true c, if_neg (by simp), List.length_map, if_pos (by omega), if_pos (by omega), Int.toNat_natCast]
    have := GoodR_l0 l hl t hb t.length 0 k (List.replicate l.length 0) (by omega) (by omega) (by simp) (fun x hx => by have := List.eq_of_mem_replicate hx; omega)
    rw [Int.natCast_zero] at this
    rw [this, List.drop_zero]
    rfl
  · rw [decide_eq_true (by omega : (t.length : Int) > 10000), decide_eq_false c]
    rfl
theorem ints_l0 (a : List Int) (hb : a.length ≤ 1000000) : ∀ d p k, p + d = a.length → d < k → tocsinlaw9_ints.l0 k a a p = some true := by
  intro d
  induction d with
  | zero =>
    intro p k hp hk
    obtain ⟨k, rfl⟩ : ∃ k', k = k' + 1 := ⟨k - 1, by omega⟩
    unfold tocsinlaw9_ints.l0
    rw [if_neg (by omega)]
  | succ d ih =>
    intro p k hp hk
    obtain ⟨k, rfl⟩ : ∃ k', k = k' + 1 := ⟨k - 1, by omega⟩
    unfold tocsinlaw9_ints.l0
    rw [if_pos (by omega), if_pos (by omega), if_pos (by omega), if_pos rfl, w64 ((p : Int) + 1) (by omega) (by omega), show (p : Int) + 1 = ((p + 1 : Nat) : Int) by omega]
    exact ih (p + 1) k (by omega) (by omega)
theorem ints_is (a : List Int) (hb : a.length ≤ 1000000) (k : Nat) (hk : a.length < k) : tocsinlaw9_ints.f k a a = some true := by
  unfold tocsinlaw9_ints.f
  rw [if_pos rfl]
  exact ints_l0 a hb a.length 0 k (by omega) hk

end Go.Proofs.YtckceohneklddaaDoor.Pure
