/- What the document's own answers on traces compute (law24). 
-- slim What the document's own first, run, End, meets and can compute (law24): the same run by deadlines. 
-- slim The document's own can, Best and Greedy are as the program's (law24): plain lists. 
-- slim The document's own Greedy is as the program's (law24): plain lists. 
-- slim -/
import Derived.Test.YtobkfbkhcghaeaaGreatDoorRvQ
import Derived.Test.YtobkfbkhcghaeaaGreatDoorRvLaw
import Derived.Lib.TrimUEq
import Derived.Lib.ValidLaws
import Derived.Test.YtobkfbkhcghaeaaGreatDoorRvP
namespace Go.Proofs.YtobkfbkhcghaeaaGreatDoor.PRv
open Go.RowKit Go.Proofs.YtobkfbkhcghaeaaGreatDoor.PRv Go.Proofs.YtobkfbkhcghaeaaGreatDoorW.PrintWords Go.Proofs.YtobkfbkhcghaeaaGreatDoorW.PrintLast Go.Proofs.YtobkfbkhcghaeaaGreatDoorW.PrintMore Go.Proofs.YtobkfbkhcghaeaaGreatDoor.PGd
set_option linter.unusedVariables false
set_option linter.unusedSimpArgs false

open Go.Lib
def bL (s : ByteArray) : List UInt8 := s.data.toList
theorem bL_len (s : ByteArray) : (bL s).length = s.size := (Lib.size_eq s).symm
theorem goodF_valid (s : ByteArray) : ∀ f p n m, s.size ≤ p + f → p ≤ s.size → goodF (runesF s f p) n = some m → validD ((bL s).drop p) = true := by
 intro f
 have ends : ∀ p, p = s.size → validD ((bL s).drop p) = true := by
  rintro p rfl
  rw [List.drop_eq_nil_of_le (by rw [bL_len]; exact Nat.le_refl _)]
  rfl
 induction f with
 | zero => intro p n m h0 h1 _; exact ends p (by omega)
 | succ f ih =>
  intro p n m h0 h1 h
  by_cases hp : p < s.size
  ·rw [runesF_step s f p hp] at h
   have hF := decode_fits s p hp
   have hK := Lib.decode_width_pos s p hp
   have hne : (bL s).drop p ≠ [] := by
    intro e
    have := congrArg List.length e
    rw [List.length_drop, bL_len] at this
    simp only [List.length_nil] at this
    omega
   rw [validD_step _ hne, show decodeL ((bL s).drop p) = Utf8.decode s p from decodeL_drop s p, List.drop_drop]
   simp only [goodF] at h
   split at h
   ·rename_i hc
    have hr : (Utf8.decode s p).1 ≠ 65533 := by
     intro e
     rw [e] at hc
     simp only [Bool.or_eq_true, Bool.and_eq_true, decide_eq_true_eq] at hc
     rcases hc with hc | ⟨_, hc | hc⟩
     ·exact (letter_not _ hc).1 rfl
     ·simp [isDig] at hc
     ·omega
    rw [if_neg (fun hx => hr hx.1)]
    exact ih (p + (Utf8.decode s p).2) _ m (by omega) (by omega) h
   ·cases h
  ·exact ends p (by omega)
theorem good_same (s : ByteArray) : goodB s = refName s := by
 unfold goodB refName
 cases hg : goodF (runes s) 0 with
 | none => simp
 | some n =>
  have hl := goodF_len _ _ _ hg
  have hv := goodF_valid s s.size 0 0 n (by omega) (Nat.zero_le _) hg
  rw [List.drop_zero] at hv
  rw [Nat.zero_add] at hl
  simp only [Option.isSome_some, Bool.and_true, hl]
  rw [show validD s.data.toList = true from hv, Bool.and_true]

abbrev Rb := S46
def toR (t : Jb) : Rb := ⟨t.f0, t.f1, t.f2, t.f3, t.f4, t.f5, t.f6, t.f7⟩
theorem rdR (l : List Jb) (i : Int) (h0 : 0 ≤ i) (h : i < l.length) : rd_T46 (l.map toR) i = toR (rd_T45 l i) := by
 unfold rd_T46 rd_T45
 rw [List.getD_eq_getElem?_getD, List.getD_eq_getElem?_getD, List.getElem?_map, List.getElem?_eq_getElem (by omega)]
 rfl
theorem own_l0 (l : List Jb) (hn : l.length ≤ 1000000) : ∀ d p k (m : List Rb), p + d = l.length → d < k → m.length = p →
  tocsinlaw24_own.l0 k l m p = some (m ++ (l.drop p).map toR) := by
 intro d
 induction d with
 | zero =>
  intro p k m hp hk hm
  obtain ⟨k, rfl⟩ : ∃ k', k = k' + 1 := ⟨k - 1, by omega⟩
  unfold tocsinlaw24_own.l0
  rw [if_neg (by omega), List.drop_of_length_le (by omega)]
  simp
 | succ d ih =>
  intro p k m hp hk hm
  obtain ⟨k, rfl⟩ : ∃ k', k = k' + 1 := ⟨k - 1, by omega⟩
  unfold tocsinlaw24_own.l0
  rw [if_pos (by omega), if_pos (by omega), if_pos (by omega), w64 ((p : Int) + 1) (by omega) (by omega), show (p : Int) + 1 = ((p + 1 : Nat) : Int) by omega]
  rw [ih (p + 1) k _ (by omega) (by omega) (by simp [hm]), dropJ l p (by omega), List.map_cons, List.append_assoc]
  rfl
theorem own_is (l : List Jb) (hn : l.length ≤ 1000000) (k : Nat) (hk : l.length < k) : tocsinlaw24_own.f k l = some (l.map toR) := by
 have := own_l0 l hn l.length 0 k [] (by omega) hk rfl
 rw [List.drop_zero, List.nil_append] at this
 exact this
theorem goodR_is (t : Jb) (h : t.f0.size ≤ 100) : tocsinref8_Good.f t.f0 t.f1 t.f2 t.f3 t.f4 t.f5 t.f6 t.f7 = some (goodJ t) := by
 unfold tocsinref8_Good.f tocsinref8_GoodName.f
 rw [if_pos (show t.f0.size ≤ PRv.lim from Nat.le_trans h (by decide)), Option.bind_some]
 unfold goodJ goodJB
 rw [good_same]
 cases refName t.f0
 ·rfl
 ·simp only [if_true, Bool.true_and]
  repeat' split
  all_goals (congr 1; first | (symm; rw [decide_eq_false_iff_not]; omega) | (rw [decide_eq_decide]; omega))
theorem WorkR_is (t : Jb) (h : t.f0.size ≤ 100) : tocsinref8_Work.f t.f0 t.f1 t.f2 t.f3 t.f4 t.f5 t.f6 t.f7 = some (workJ t) := by
 unfold tocsinref8_Work.f workJ
 rw [goodR_is t h, Option.bind_some]
 cases hg : goodJ t
 ·rfl
 ·have := goodJ_b hg
  rw [if_pos rfl, if_pos rfl]
  by_cases c : t.f4 ≤ t.f3
  ·rw [if_neg (by omega), if_pos c]
  ·rw [if_pos (by omega), if_neg c, w64 _ (by omega) (by omega)]
theorem AllR_l0 (l : List Jb) (hl : okN l) (hn : l.length ≤ 1000000) : ∀ d p k, p + d = l.length → d < k →
  tocsinref8_All.l0 k (l.map toR) p = some (decide (l.length ≤ 200) && (l.drop p).all goodJ) := by
 intro d
 induction d with
 | zero =>
  intro p k hp hk
  obtain ⟨k, rfl⟩ : ∃ k', k = k' + 1 := ⟨k - 1, by omega⟩
  unfold tocsinref8_All.l0
  rw [List.length_map, if_neg (by omega), List.drop_of_length_le (by omega)]
  simp only [List.all_nil, Bool.and_true]
  congr 1
  rw [decide_eq_decide]
  omega
 | succ d ih =>
  intro p k hp hk
  obtain ⟨k, rfl⟩ : ∃ k', k = k' + 1 := ⟨k - 1, by omega⟩
  unfold tocsinref8_All.l0
  rw [List.length_map, if_pos (by omega), if_pos (by omega), rdR l p (by omega) (by omega), w64 ((p : Int) + 1) (by omega) (by omega), show (p : Int) + 1 = ((p + 1 : Nat) : Int) by omega]
  have e := goodR_is (rd_T45 l p) (hl _ (rdJ_mem l p (by omega) (by omega)))
  show (tocsinref8_Good.f (rd_T45 l p).f0 (rd_T45 l p).f1 (rd_T45 l p).f2 (rd_T45 l p).f3 (rd_T45 l p).f4 (rd_T45 l p).f5 (rd_T45 l p).f6 (rd_T45 l p).f7).bind _ = _
  rw [e, Option.bind_some, dropJ l p (by omega), List.all_cons]
  cases goodJ (rd_T45 l p)
  ·simp
  ·rw [if_pos rfl, ih (p + 1) k (by omega) (by omega), Bool.true_and]
theorem AllR_is (l : List Jb) (hl : okN l) (hn : l.length ≤ 1000000) (k : Nat) (hk : l.length < k) : tocsinref8_All.f k (l.map toR) = some (allJ l) := by
 have := AllR_l0 l hl hn l.length 0 k (by omega) hk
 rw [List.drop_zero] at this
 exact this
theorem DoneR_l0 (l : List Jb) (hl : okN l) (i : Int) (hi0 : 0 ≤ i) (hi : i < l.length) (t : List Int) (hb : t.length ≤ 1000000) : ∀ d p k (n : Int), p + d = t.length → d < k → 0 ≤ n → n < workJ (rd_T45 l i) →
  tocsinref8_DoneAt.l0 k (l.map toR) t i n p = some (resD (doneL i (workJ (rd_T45 l i) - n) (t.drop p) p)) := by
 have hw := workJ_b (rd_T45 l i)
 have e := WorkR_is (rd_T45 l i) (hl _ (rdJ_mem l i hi0 hi))
 generalize workJ (rd_T45 l i) = W at *
 intro d
 induction d with
 | zero =>
  intro p k n hp hk h0 h1
  obtain ⟨k, rfl⟩ : ∃ k', k = k' + 1 := ⟨k - 1, by omega⟩
  unfold tocsinref8_DoneAt.l0
  rw [if_neg (by omega), List.drop_of_length_le (by omega)]
  rfl
 | succ d ih =>
  intro p k n hp hk h0 h1
  obtain ⟨k, rfl⟩ : ∃ k', k = k' + 1 := ⟨k - 1, by omega⟩
  unfold tocsinref8_DoneAt.l0
  rw [rd_at t p (by omega), if_pos (by omega), if_pos (by omega), w64 ((p : Int) + 1) (by omega) (by omega), show (p : Int) + 1 = ((p + 1 : Nat) : Int) by omega, w64 (n + 1) (by omega) (by omega)]
  unfold doneL
  by_cases c : rd t (p : Int) = i
  ·rw [if_pos c, if_pos c, if_pos (by omega), if_pos (by rw [List.length_map]; omega), rdR l i hi0 hi]
   show (tocsinref8_Work.f (rd_T45 l i).f0 (rd_T45 l i).f1 (rd_T45 l i).f2 (rd_T45 l i).f3 (rd_T45 l i).f4 (rd_T45 l i).f5 (rd_T45 l i).f6 (rd_T45 l i).f7).bind _ = _
   rw [e, Option.bind_some]
   by_cases c2 : n + 1 = W
   ·rw [if_pos c2, if_pos (by omega)]; rfl
   ·rw [if_neg c2, if_neg (by omega), ih (p + 1) k (n + 1) (by omega) (by omega) (by omega) (by omega), show W - (n + 1) = W - n - 1 by omega]
  ·rw [if_neg c, if_neg c, if_neg (by omega)]
   exact ih (p + 1) k n (by omega) (by omega) h0 h1
theorem DoneR_is (l : List Jb) (hl : okN l) (hn : l.length ≤ 1000000) (t : List Int) (i : Int) (k : Nat) (hb : t.length ≤ 1000000) (hk : t.length + l.length + 3 ≤ k) : tocsinref8_DoneAt.f k (l.map toR) t i = some (resD (doneJ l t i)) := by
 obtain ⟨k, rfl⟩ : ∃ k', k = k' + 1 := ⟨k - 1, by omega⟩
 unfold tocsinref8_DoneAt.f doneJ
 rw [List.length_map]
 by_cases c0 : i < 0
 ·rw [if_pos c0, if_neg (by omega)]
  unfold tocsinref8_DoneAt.j0
  rfl
 rw [if_neg c0]
 by_cases c1 : i ≥ l.length
 ·rw [if_pos c1, if_neg (by omega)]
  unfold tocsinref8_DoneAt.j0
  rfl
 rw [if_neg c1, AllR_is l hl hn _ (by omega), Option.bind_some]
 cases ha : allJ l
 ·rw [if_neg (by simp)]
  unfold tocsinref8_DoneAt.j0
  rfl
 rw [if_pos ⟨by omega, by omega, rfl⟩]
 unfold tocsinref8_DoneAt.j0
 dsimp only
 rw [if_neg (by simp)]
 have hp := workJ_pos (allJ_at ha i (by omega) (by omega))
 have := DoneR_l0 l hl i (by omega) (by omega) t hb t.length 0 k 0 (by omega) (by omega) (by omega) (by omega)
 rw [Int.natCast_zero, Int.sub_zero] at this
 rw [this, List.drop_zero]
theorem MetR_is (l : List Jb) (hl : okN l) (hn : l.length ≤ 1000000) (t : List Int) (i : Int) (k : Nat) (hb : t.length ≤ 1000000) (hk : t.length + l.length + 3 ≤ k) : tocsinref8_MetBy.f k (l.map toR) t i = some (metJ l t i) := by
 unfold tocsinref8_MetBy.f metJ
 rw [DoneR_is l hl hn t i k hb hk, Option.bind_some]
 cases hd : doneJ l t i with
 | none => rfl
 | some a =>
  have hi := doneJ_in hd
  rw [if_pos (show (resD (some a)).2 = true from rfl), if_pos (by omega), if_pos (by rw [List.length_map]; omega), rdR l i (by omega) (by omega)]
  by_cases c : (resD (some a)).1 ≤ (toR (rd_T45 l i)).f2
  ·rw [if_pos c]
   have e := decide_eq_true (show (a : Int) ≤ (rd_T45 l i).f2 from c)
   dsimp only
   rw [e]
   rfl
  ·rw [if_neg c]
   have e := decide_eq_false (show ¬ (a : Int) ≤ (rd_T45 l i).f2 from c)
   dsimp only
   rw [e]
   rfl
theorem ValueR_l0 (l : List Jb) (hl : okN l) (hn : l.length ≤ 1000000) (t : List Int) (hb : t.length ≤ 1000000) : ∀ d i k (acc : Int), i + d = l.length → d + t.length + l.length + 3 < k →
  tocsinref8_Value.l0 k (l.map toR) t acc i = some (valL l (metJ l t) d i acc) := by
 intro d
 induction d with
 | zero =>
  intro i k acc hp hk
  obtain ⟨k, rfl⟩ : ∃ k', k = k' + 1 := ⟨k - 1, by omega⟩
  unfold tocsinref8_Value.l0
  rw [List.length_map, if_neg (by omega)]
  rfl
 | succ d ih =>
  intro i k acc hp hk
  obtain ⟨k, rfl⟩ : ∃ k', k = k' + 1 := ⟨k - 1, by omega⟩
  unfold tocsinref8_Value.l0 valL
  rw [List.length_map, if_pos (by omega), MetR_is l hl hn t i k hb (by omega), Option.bind_some, rdR l i (by omega) (by omega)]
  rw [w64 ((i : Int) + 1) (by omega) (by omega), show (i : Int) + 1 = ((i + 1 : Nat) : Int) by omega]
  cases metJ l t i
  ·rw [if_neg (by simp), if_neg (by simp)]
   exact ih (i + 1) k acc (by omega) (by omega)
  ·rw [if_pos rfl, if_pos (by omega), if_pos rfl]
   exact ih (i + 1) k _ (by omega) (by omega)
theorem ValueR_is (l : List Jb) (hl : okN l) (hn : l.length ≤ 1000000) (t : List Int) (hb : t.length ≤ 1000000) (k : Nat) (hk : 2 * l.length + t.length + 3 < k) : tocsinref8_Value.f k (l.map toR) t = some (valJ l t) :=
 ValueR_l0 l hl hn t hb l.length 0 k 0 (by omega) (by omega)
theorem GoodR_l0 (l : List Jb) (hl : okN l) (t : List Int) (hb : t.length ≤ 1000000) : ∀ d p k (ran : List Int), p + d = t.length → 2 * d < k → ran.length = l.length → (∀ x ∈ ran, 0 ≤ x ∧ x ≤ 1100) →
  tocsinref8_GoodTrace.l0 k (l.map toR) t ran p = some (goodL l ran (t.drop p) p) := by
 intro d
 induction d with
 | zero =>
  intro p k ran hp hk hr hn
  obtain ⟨k, rfl⟩ : ∃ k', k = k' + 1 := ⟨k - 1, by omega⟩
  unfold tocsinref8_GoodTrace.l0
  rw [if_neg (by omega), List.drop_of_length_le (by omega)]
  rfl
 | succ d ih =>
  intro p k ran hp hk hr hn
  obtain ⟨k, rfl⟩ : ∃ k', k = k' + 2 := ⟨k - 2, by omega⟩
  unfold tocsinref8_GoodTrace.l0
  rw [rd_at t p (by omega), if_pos (by omega), if_pos (by omega), w64 ((p : Int) + 1) (by omega) (by omega), show (p : Int) + 1 = ((p + 1 : Nat) : Int) by omega, List.length_map]
  unfold goodL
  generalize rd t (p : Int) = i
  have no : ∀ x7 : Int, tocsinref8_GoodTrace.j2 (k + 1) (l.map toR) t ran p x7 true = some false := by
   intro x7
   unfold tocsinref8_GoodTrace.j2
   rfl
  by_cases c1 : i = -1
  ·rw [if_pos c1, if_pos c1]
   exact ih (p + 1) (k + 1) ran (by omega) (by omega) hr hn
  rw [if_neg c1, if_neg c1]
  by_cases c2 : i < 0
  ·rw [if_pos c2, decide_eq_false (by omega : ¬ 0 ≤ i), no]; rfl
  rw [if_neg c2, decide_eq_true (by omega : 0 ≤ i)]
  by_cases c3 : i ≥ l.length
  ·rw [if_pos c3, decide_eq_false (by omega : ¬ i < l.length), no]; rfl
  rw [if_neg c3, if_pos (by omega), if_pos (by omega), decide_eq_true (by omega : i < l.length), rdR l i (by omega) (by omega)]
  by_cases c4 : (p : Int) < (rd_T45 l i).f1
  ·rw [if_pos (show (p : Int) < (toR (rd_T45 l i)).f1 from c4), decide_eq_false (by omega : ¬ (rd_T45 l i).f1 ≤ p), no]; rfl
  rw [if_neg (show ¬ (p : Int) < (toR (rd_T45 l i)).f1 from c4), decide_eq_true (by omega : (rd_T45 l i).f1 ≤ p)]
  by_cases c5 : (p : Int) ≥ (rd_T45 l i).f2
  ·rw [decide_eq_true (show (p : Int) ≥ (toR (rd_T45 l i)).f2 from c5), decide_eq_false (by omega : ¬ (p : Int) < (rd_T45 l i).f2), no]; rfl
  rw [decide_eq_false (show ¬ (p : Int) ≥ (toR (rd_T45 l i)).f2 from c5), decide_eq_true (by omega : (p : Int) < (rd_T45 l i).f2)]
  have h0 := hn _ (rd_mem ran i (by omega) (by omega))
  have e := WorkR_is (rd_T45 l i) (hl _ (rdJ_mem l i (by omega) (by omega)))
  have hw := workJ_b (rd_T45 l i)
  unfold tocsinref8_GoodTrace.j2
  rw [if_neg (by simp), if_pos (by omega), if_pos (by omega), Option.bind_some, List.length_map, if_pos (by omega), rdR l i (by omega) (by omega)]
  show (tocsinref8_Work.f (rd_T45 l i).f0 (rd_T45 l i).f1 (rd_T45 l i).f2 (rd_T45 l i).f3 (rd_T45 l i).f4 (rd_T45 l i).f5 (rd_T45 l i).f6 (rd_T45 l i).f7).bind _ = _
  rw [e, Option.bind_some, w64 (rd ran i + 1) (by omega) (by omega), rd_set ran i _ (by omega) (by omega)]
  simp only [Bool.true_and]
  by_cases c6 : rd ran i + 1 > workJ (rd_T45 l i)
  ·rw [if_pos c6, decide_eq_false (by omega)]; rfl
  rw [if_neg c6, decide_eq_true (by omega), Bool.true_and, w64 ((p : Int) + 1) (by omega) (by omega), show (p : Int) + 1 = ((p + 1 : Nat) : Int) by omega]
  refine ih (p + 1) k _ (by omega) (by omega) (by simp [hr]) ?_
  intro x hx
  rcases List.mem_or_eq_of_mem_set hx with h | h
  ·exact hn x h
  ·omega
theorem GoodR_is (l : List Jb) (hl : okN l) (hn : l.length ≤ 1000000) (t : List Int) (k : Nat) (hb : t.length ≤ 1000000) (hk : 2 * t.length + l.length + 4 ≤ k) : tocsinref8_GoodTrace.f k (l.map toR) t = some (goodT l t) := by
 obtain ⟨k, rfl⟩ : ∃ k', k = k' + 1 := ⟨k - 1, by omega⟩
 unfold tocsinref8_GoodTrace.f goodT
 rw [AllR_is l hl hn _ (by omega), Option.bind_some]
 cases ha : allJ l
 ·rw [if_neg (by simp)]
  unfold tocsinref8_GoodTrace.j0
  rfl
 have hn : l.length ≤ 200 := by
  unfold allJ at ha
  rw [Bool.and_eq_true, decide_eq_true_iff] at ha
  exact ha.1
 rw [if_pos rfl]
 unfold tocsinref8_GoodTrace.j0
 dsimp only
 by_cases c : t.length ≤ 10000
 ·rw [decide_eq_false (by omega : ¬ (t.length : Int) > 10000), decide_eq_true c, if_neg (by simp), List.length_map, if_pos (by omega), if_pos (by omega), Int.toNat_natCast]
  have := GoodR_l0 l hl t hb t.length 0 k (List.replicate l.length 0) (by omega) (by omega) (by simp) (fun x hx => by have := List.eq_of_mem_replicate hx; omega)
  rw [Int.natCast_zero] at this
  rw [this, List.drop_zero]
  rfl
 ·rw [decide_eq_true (by omega : (t.length : Int) > 10000), decide_eq_false c]
  rfl
theorem ints_l0 (a : List Int) (hb : a.length ≤ 1000000) : ∀ d p k, p + d = a.length → d < k → tocsinlaw24_ints.l0 k a a p = some true := by
 intro d
 induction d with
 | zero =>
  intro p k hp hk
  obtain ⟨k, rfl⟩ : ∃ k', k = k' + 1 := ⟨k - 1, by omega⟩
  unfold tocsinlaw24_ints.l0
  rw [if_neg (by omega)]
 | succ d ih =>
  intro p k hp hk
  obtain ⟨k, rfl⟩ : ∃ k', k = k' + 1 := ⟨k - 1, by omega⟩
  unfold tocsinlaw24_ints.l0
  rw [if_pos (by omega), if_pos (by omega), if_pos (by omega), if_pos rfl, w64 ((p : Int) + 1) (by omega) (by omega), show (p : Int) + 1 = ((p + 1 : Nat) : Int) by omega]
  exact ih (p + 1) k (by omega) (by omega)
theorem ints_is (a : List Int) (hb : a.length ≤ 1000000) (k : Nat) (hk : a.length < k) : tocsinlaw24_ints.f k a a = some true := by
 unfold tocsinlaw24_ints.f
 rw [if_pos rfl]
 exact ints_l0 a hb a.length 0 k (by omega) hk

end Go.Proofs.YtobkfbkhcghaeaaGreatDoor.PRv
namespace Go.Proofs.YtobkfbkhcghaeaaGreatDoor.PRv
open Go.RowKit Go.Proofs.YtobkfbkhcghaeaaGreatDoor.PRv Go.Proofs.YtobkfbkhcghaeaaGreatDoorW.PrintWords Go.Proofs.YtobkfbkhcghaeaaGreatDoorW.PrintLast Go.Proofs.YtobkfbkhcghaeaaGreatDoorW.PrintMore 
set_option linter.unusedVariables false
set_option linter.unusedSimpArgs false

/-- Of places below i that may: none (-1), or the first by deadline, then place. -/
def Pick (l : List Jb) (p : Nat → Bool) (i : Nat) (b : Int) : Prop :=
 (b = -1 ∧ ∀ j, j < i → p j = false) ∨ ∃ q : Nat, b = (q : Int) ∧ q < i ∧ p q = true ∧ ∀ j, j < i → p j = true → (rJ l q).f2 < (rJ l j).f2 ∨ (rJ l q).f2 = (rJ l j).f2 ∧ q ≤ j
theorem Pick.uniq {l : List Jb} {p : Nat → Bool} {i : Nat} {a b : Int} (h1 : Pick l p i a) (h2 : Pick l p i b) : a = b := by
 rcases h1 with ⟨rfl, n1⟩ | ⟨q1, rfl, l1, p1, m1⟩
 ·rcases h2 with ⟨rfl, n2⟩ | ⟨q2, rfl, l2, p2, m2⟩
  ·rfl
  ·rw [n1 q2 l2] at p2; cases p2
 ·rcases h2 with ⟨rfl, n2⟩ | ⟨q2, rfl, l2, p2, m2⟩
  ·rw [n2 q1 l1] at p1; cases p1
  ·have a1 := m1 q2 l2 p2
   have a2 := m2 q1 l1 p1
   omega
theorem Pick.congr {l : List Jb} {p p' : Nat → Bool} {i : Nat} {b : Int} (h : Pick l p i b) (he : ∀ j, j < i → p j = p' j) : Pick l p' i b := by
 rcases h with ⟨rfl, n1⟩ | ⟨q1, rfl, l1, p1, m1⟩
 ·exact .inl ⟨rfl, fun j hj => by rw [← he j hj]; exact n1 j hj⟩
 ·exact .inr ⟨q1, rfl, l1, by rw [← he q1 l1]; exact p1, fun j hj hp => m1 j hj (by rw [he j hj]; exact hp)⟩
theorem Pick.bd {l : List Jb} {p : Nat → Bool} {i : Nat} {b : Int} (h : Pick l p i b) : -1 ≤ b ∧ b < (i : Int) := by
 rcases h with ⟨rfl, _⟩ | ⟨q, rfl, h, _⟩ <;> omega
theorem rdR2 (l : List Jb) (i : Int) (h0 : 0 ≤ i) (h : i < l.length) : (rd_T46 (l.map toR) i).f2 = (rd_T45 l i).f2 := by rw [rdR l i h0 h]; rfl
theorem first_l0 (l : List Jb) (may : List Bool) (hn : l.length ≤ 1000) (hm : may.length = l.length) : ∀ d i k (b : Int), i + d = l.length → d < k → Pick l (fun j => rdOf false may (j : Int)) i b →
  ∃ b', tocsinref8_first.l0 k (l.map toR) may b (i : Int) = some b' ∧ Pick l (fun j => rdOf false may (j : Int)) l.length b' := by
 intro d
 induction d with
 | zero =>
  intro i k b hi hk h
  obtain ⟨k, rfl⟩ : ∃ k', k = k' + 1 := ⟨k - 1, by omega⟩
  obtain rfl : i = l.length := by omega
  unfold tocsinref8_first.l0
  rw [List.length_map, if_neg (by omega)]
  exact ⟨b, rfl, h⟩
 | succ d ih =>
  intro i k b hi hk h
  obtain ⟨k, rfl⟩ : ∃ k', k = k' + 1 := ⟨k - 1, by omega⟩
  have hb := h.bd
  unfold tocsinref8_first.l0
  rw [List.length_map, if_pos (by omega), if_pos (by omega), if_pos (by omega), w64 ((i : Int) + 1) (by omega) (by omega), show (i : Int) + 1 = ((i + 1 : Nat) : Int) by omega]
  have keep : (rdOf false may (i : Int) = true → ∃ q : Nat, b = (q : Int) ∧ (rJ l q).f2 ≤ (rJ l i).f2) → Pick l (fun j => rdOf false may (j : Int)) (i + 1) b := fun hh => by
   rcases h with ⟨rfl, n1⟩ | ⟨q1, rfl, l1, p1, m1⟩
   ·refine .inl ⟨rfl, fun j hj => ?_⟩
    by_cases e : j = i
    ·subst e
     cases c : rdOf false may (j : Int) with
     | false => exact c
     | true => obtain ⟨q, e, _⟩ := hh c; omega
    ·exact n1 j (by omega)
   ·refine .inr ⟨q1, rfl, by omega, p1, fun j hj hp => ?_⟩
    by_cases e : j = i
    ·subst e
     obtain ⟨q, e, hq⟩ := hh hp
     obtain rfl : q1 = q := by omega
     omega
    ·exact m1 j (by omega) hp
  have take : rdOf false may (i : Int) = true → (∀ q : Nat, b = (q : Int) → (rJ l i).f2 < (rJ l q).f2) → Pick l (fun j => rdOf false may (j : Int)) (i + 1) (i : Int) := fun hp hh => by
   refine .inr ⟨i, rfl, by omega, hp, fun j hj hpj => ?_⟩
   by_cases e : j = i
   ·subst e; omega
   ·rcases h with ⟨rfl, n1⟩ | ⟨q1, rfl, l1, p1, m1⟩
    ·have := n1 j (by omega)
     dsimp only at this hpj
     rw [this] at hpj; cases hpj
    ·have := m1 j (by omega) hpj
     have := hh q1 rfl
     omega
  by_cases c : rdOf false may (i : Int) = true
  ·rw [if_pos c]
   by_cases c1 : b < 0
   ·rw [if_pos c1]
    exact ih (i + 1) k (i : Int) (by omega) (by omega) (take c (fun q e => by omega))
   ·rw [if_neg c1, if_pos (by omega), if_pos (by omega), rdR2 l i (by omega) (by omega), rdR2 l b (by omega) (by omega)]
    by_cases c2 : (rd_T45 l (i : Int)).f2 < (rd_T45 l b).f2
    ·rw [if_pos c2]
     exact ih (i + 1) k (i : Int) (by omega) (by omega) (take c (fun q e => by subst e; exact c2))
    ·rw [if_neg c2]
     refine ih (i + 1) k b (by omega) (by omega) (keep fun _ => ⟨b.toNat, by omega, ?_⟩)
     rw [show b = ((b.toNat : Nat) : Int) by omega] at c2
     show (rd_T45 l ((b.toNat : Nat) : Int)).f2 ≤ (rd_T45 l (i : Int)).f2
     omega
  ·rw [if_neg c]
   exact ih (i + 1) k b (by omega) (by omega) (keep fun hp => absurd hp c)
theorem first_is (l : List Jb) (may : List Bool) (hn : l.length ≤ 1000) (hm : may.length = l.length) (k : Nat) (hk : l.length < k) : ∃ b, tocsinref8_first.f k (l.map toR) may = some b ∧ Pick l (fun j => rdOf false may (j : Int)) l.length b :=
 first_l0 l may hn hm l.length 0 k (-1) (by omega) hk (.inl ⟨rfl, fun j hj => by omega⟩)
-- the program's own pick
theorem pick_R {p : Int → Bool} (R : Int → Int → Prop) : ∀ (o : List Int) (k : Nat), o.Pairwise R → 0 ≤ firstE p o k → ∀ i ∈ o, p i = true → i = rd o (firstE p o k - k) ∨ R (rd o (firstE p o k - k)) i
 | [], k, _, hf, i, h, _ => by cases h
 | x :: o, k, hs, hf, i, h, hp => by
  have hc := List.pairwise_cons.1 hs
  simp only [firstE] at hf ⊢
  split at hf
  ·rename_i hx
   rw [if_pos hx, Int.sub_self]
   show i = x ∨ R x i
   rcases List.mem_cons.1 h with rfl | h
   ·exact .inl rfl
   ·exact .inr (hc.1 i h)
  ·rename_i hx
   rw [if_neg hx]
   rcases List.mem_cons.1 h with rfl | h
   ·exact absurd hp hx
   ·have ih := pick_R R o (k + 1) hc.2 hf i h hp
    have hb := firstE_bd p o (k + 1)
    have hb := (hb.2 hf).1
    generalize firstE p o (k + 1) = r at *
    have : rd (x :: o) (r - k) = rd o (r - ((k + 1 : Nat) : Int)) := by
     unfold rd
     rw [show (r - (k : Int)).toNat = (r - ((k + 1 : Nat) : Int)).toNat + 1 by omega]
     rfl
    rw [this]
    exact ih
def pickE (l : List Jb) (t : Int) (left : List Int) : Int := if firstE (mayE l t left) (nI (ordD l)) 0 < 0 then -1 else rd (nI (ordD l)) (firstE (mayE l t left) (nI (ordD l)) 0)
theorem ordD_lex (l : List Jb) : (nI (ordD l)).Pairwise (fun a b => (rd_T45 l a).f2 < (rd_T45 l b).f2 ∨ (rd_T45 l a).f2 = (rd_T45 l b).f2 ∧ a ≤ b) := by
 unfold nI ordD
 rw [List.pairwise_map]
 refine List.Pairwise.imp ?_ (srt_sorted (keyD l) (List.range l.length))
 intro a b h
 have := of_decide_eq_true h
 unfold keyD at this
 omega
theorem pickE_is (l : List Jb) (t : Int) (left : List Int) : Pick l (fun j => mayE l t left (j : Int)) l.length (pickE l t left) := by
 unfold pickE
 have hb := firstE_bd (mayE l t left) (nI (ordD l)) 0
 split
 ·rename_i hneg
  exact .inl ⟨rfl, fun j hj => pick_none _ 0 hneg _ (ordD_all l j hj)⟩
 ·rename_i hneg
  have hb2 := hb.2 (by omega)
  have hp := pick_R _ (nI (ordD l)) 0 (ordD_lex l) (by omega : 0 ≤ firstE (mayE l t left) (nI (ordD l)) 0)
  rw [show firstE (mayE l t left) (nI (ordD l)) 0 - ((0 : Nat) : Int) = firstE (mayE l t left) (nI (ordD l)) 0 by omega] at hb2 hp
  have hin := ordD_in l _ (rd_mem (nI (ordD l)) (firstE (mayE l t left) (nI (ordD l)) 0) (by omega) (by omega))
  generalize rd (nI (ordD l)) (firstE (mayE l t left) (nI (ordD l)) 0) = r at *
  obtain ⟨q, rfl⟩ : ∃ q : Nat, r = (q : Int) := ⟨r.toNat, by omega⟩
  refine .inr ⟨q, rfl, by omega, hb2.2.2, fun j hj hpj => ?_⟩
  rcases hp (j : Int) (ordD_all l j hj) hpj with e | e
  ·obtain rfl : j = q := by omega
   omega
  ·show (rd_T45 l (q : Int)).f2 < (rd_T45 l (j : Int)).f2 ∨ (rd_T45 l (q : Int)).f2 = (rd_T45 l (j : Int)).f2 ∧ q ≤ j
   omega
theorem goE_step (l : List Jb) (f : Nat) (t : Int) (left : List Int) : goE l (nI (ordD l)) (f + 1) t left = pickE l t left :: goE l (nI (ordD l)) f (t + 1) (if pickE l t left < 0 then left else left.set (pickE l t left).toNat (rd left (pickE l t left) - 1)) := by
 simp only [goE]
 have hp := (pickE_is l t left).bd
 unfold pickE at hp ⊢
 split
 ·rename_i h
  rw [if_pos (show (-1 : Int) < 0 by decide)]
 ·rename_i h
  rw [if_neg h] at hp
  have hb := firstE_bd (mayE l t left) (nI (ordD l)) 0
  have hb2 := hb.2 (by omega)
  have hin := ordD_in l _ (rd_mem (nI (ordD l)) (firstE (mayE l t left) (nI (ordD l)) 0) (by omega) (by omega))
  rw [if_neg (show ¬ rd (nI (ordD l)) (firstE (mayE l t left) (nI (ordD l)) 0) < 0 by omega)]
-- the reference's run
def bdW (work : List Int) : Prop := ∀ x ∈ work, 0 ≤ x ∧ x ≤ 2000
theorem rdW_bd {work : List Int} (h : bdW work) (i : Nat) (hi : i < work.length) : 0 ≤ rd work (i : Int) ∧ rd work (i : Int) ≤ 2000 := h _ (rd_mem work _ (by omega) (by omega))
theorem rdB_set (m : List Bool) (i j : Nat) (b : Bool) (hi : i < m.length) : rdOf false (m.set i b) (j : Int) = if j = i then b else rdOf false m (j : Int) := by
 unfold rdOf
 rw [Int.toNat_natCast, List.getD_eq_getElem?_getD, List.getD_eq_getElem?_getD, List.getElem?_set]
 by_cases c : i = j
 ·subst c; rw [if_pos rfl, if_pos rfl, if_pos hi]; rfl
 ·rw [if_neg c, if_neg (fun e => c e.symm)]
theorem rdI_set (m : List Int) (i j : Nat) (b : Int) (hi : i < m.length) : rd (m.set i b) (j : Int) = if j = i then b else rd m (j : Int) := by
 by_cases c : j = i
 ·subst c; rw [if_pos rfl, rd_set_eq _ _ _ hi]
 ·rw [if_neg c, rd_set_ne _ _ _ _ c]
def mayR (l : List Jb) (work ran : List Int) (t : Int) (j : Nat) : Bool := decide ((rJ l j).f1 ≤ t) && decide (rd ran (j : Int) < rd work (j : Int))
theorem run_l1 (l : List Jb) (work : List Int) (T : Int) (tr ran : List Int) (t : Int) (hn : l.length ≤ 1000) (hw : work.length = l.length) (hr : ran.length = l.length) : ∀ d i k (may : List Bool), i + d = l.length → may.length = l.length → (∀ j : Nat, j < i → rdOf false may (j : Int) = mayR l work ran t j) →
  ∃ may' : List Bool, may'.length = l.length ∧ (∀ j : Nat, j < l.length → rdOf false may' (j : Int) = mayR l work ran t j) ∧ tocsinref8_run.l1 (k + d + 1) (l.map toR) work T tr ran t may (i : Int) = tocsinref8_run.l1 (k + 1) (l.map toR) work T tr ran t may' (l.length : Int) := by
 intro d
 induction d with
 | zero =>
  intro i k may hi hm h
  obtain rfl : i = l.length := by omega
  exact ⟨may, hm, h, rfl⟩
 | succ d ih =>
  intro i k may hi hm h
  have hnext : ∀ b, b = mayR l work ran t i → ∀ j : Nat, j < i + 1 → rdOf false (may.set i b) (j : Int) = mayR l work ran t j := fun b hb j hj => by
   rw [rdB_set _ _ _ _ (by omega)]
   by_cases e : j = i
   ·subst e; rw [if_pos rfl, hb]
   ·rw [if_neg e]; exact h j (by omega)
  rw [show k + (d + 1) + 1 = (k + d + 1) + 1 by omega]
  conv => enter [1, may', 2, 2, 1]; unfold tocsinref8_run.l1
  rw [List.length_map, if_pos (by omega), if_pos (by omega), rdR l i (by omega) (by omega), w64 ((i : Int) + 1) (by omega) (by omega), show (i : Int) + 1 = ((i + 1 : Nat) : Int) by omega, Int.toNat_natCast]
  by_cases c : (rJ l i).f1 ≤ t
  ·rw [if_pos (show (toR (rd_T45 l (i : Int))).f1 ≤ t from c), if_pos (by omega), if_pos (by omega), if_pos (by omega)]
   exact ih (i + 1) k _ (by omega) (by rw [List.length_set]; exact hm) (hnext _ (by unfold mayR; rw [decide_eq_true c, Bool.true_and]))
  ·rw [if_neg (show ¬ (toR (rd_T45 l (i : Int))).f1 ≤ t from c), if_pos (by omega)]
   exact ih (i + 1) k _ (by omega) (by rw [List.length_set]; exact hm) (hnext _ (by unfold mayR; rw [decide_eq_false c, Bool.false_and]))
theorem run_l0 (l : List Jb) (work : List Int) (hn : l.length ≤ 1000) (hw : work.length = l.length) (hwb : bdW work) : ∀ (f : Nat) (t : Nat) (k : Nat) (tr ran left : List Int), t + f ≤ 10000 → f * (2 * l.length + 10) + 2 * l.length + 10 < k → tr.length = t → ran.length = l.length → left.length = l.length → (∀ j : Nat, j < l.length → 0 ≤ rd ran (j : Int) ∧ rd ran (j : Int) ≤ 10000 ∧ rd left (j : Int) = rd work (j : Int) - rd ran (j : Int) ∧ rd ran (j : Int) ≤ t) →
  tocsinref8_run.l0 k (l.map toR) work ((t + f : Nat) : Int) tr ran (t : Int) = some (tr ++ goE l (nI (ordD l)) f (t : Int) left) := by
 intro f
 induction f with
 | zero =>
  intro t k tr ran left ht hk htr hr hl h
  obtain ⟨k, rfl⟩ : ∃ k', k = k' + 1 := ⟨k - 1, by omega⟩
  unfold tocsinref8_run.l0
  rw [if_neg (by omega)]
  simp [goE]
 | succ f ih =>
  intro t k tr ran left ht hk htr hr hl h
  have hmul : (f + 1) * (2 * l.length + 10) = f * (2 * l.length + 10) + (2 * l.length + 10) := Nat.succ_mul ..
  obtain ⟨k, rfl⟩ : ∃ k', k = k' + l.length + 1 + 1 := ⟨k - l.length - 2, by omega⟩
  unfold tocsinref8_run.l0
  rw [if_pos (by omega), List.length_map, if_pos (by omega), if_pos (by omega), Int.toNat_natCast]
  obtain ⟨may, hm, hmay, e⟩ := run_l1 l work ((t + (f + 1) : Nat) : Int) tr ran (t : Int) hn hw hr l.length 0 k (List.replicate l.length false) (by omega) (by simp) (fun j hj => by omega)
  rw [show (0 : Int) = ((0 : Nat) : Int) from rfl, e]
  unfold tocsinref8_run.l1
  rw [List.length_map, if_neg (by omega)]
  obtain ⟨b, hb, hp⟩ := first_is l may hn hm k (by omega)
  rw [hb, Option.bind_some]
  have hpe : b = pickE l (t : Int) left := by
   refine hp.uniq ((pickE_is l (t : Int) left).congr fun j hj => ?_)
   rw [hmay j hj]
   unfold mayE mayR
   have := (h j hj).2.2.1
   congr 1
   rw [decide_eq_decide]
   omega
  have hbd := hp.bd
  rw [goE_step, ← hpe, w64 ((t : Int) + 1) (by omega) (by omega), show (t : Int) + 1 = ((t + 1 : Nat) : Int) by omega, show t + (f + 1) = (t + 1) + f by omega]
  by_cases c : b ≥ 0
  ·obtain ⟨q, rfl⟩ : ∃ q : Nat, b = (q : Int) := ⟨b.toNat, by omega⟩
   have hq := h q (by omega)
   rw [if_pos c, if_pos (by omega), if_pos (by omega), if_pos (by omega), if_neg (by omega), Int.toNat_natCast, w64 (rd ran (q : Int) + 1) (by omega) (by omega)]
   rw [ih (t + 1) k (tr ++ [(q : Int)]) (ran.set q (rd ran (q : Int) + 1)) (left.set q (rd left (q : Int) - 1)) (by omega) (by omega) (by rw [List.length_append, List.length_singleton, htr]) (by rw [List.length_set]; exact hr) (by rw [List.length_set]; exact hl) (fun j hj => by
    rw [rdI_set _ _ _ _ (by omega), rdI_set _ _ _ _ (by omega)]
    have := h j hj
    by_cases e2 : j = q
    ·subst e2; rw [if_pos rfl, if_pos rfl]; omega
    ·rw [if_neg e2, if_neg e2]; omega)]
   rw [List.append_assoc]; rfl
  ·rw [if_neg c, if_pos (by omega), if_pos (show b < 0 by omega)]
   rw [ih (t + 1) k (tr ++ [b]) ran left (by omega) (by omega) (by rw [List.length_append, List.length_singleton, htr]) hr hl (fun j hj => by have := h j hj; omega)]
   rw [List.append_assoc]; rfl
theorem rd_repl (n : Nat) (j : Int) : rd (List.replicate n (0 : Int)) j = 0 := by
 unfold rd
 rw [List.getD_eq_getElem?_getD, List.getElem?_replicate]
 split <;> rfl
theorem run_is (l : List Jb) (work : List Int) (hn : l.length ≤ 1000) (hw : work.length = l.length) (hwb : bdW work) (T : Int) (h0 : 0 ≤ T) (h1 : T ≤ 10000) (k : Nat) (hk : T.toNat * (2 * l.length + 10) + 2 * l.length + 10 < k) : tocsinref8_run.f k (l.map toR) work T = some (goE l (nI (ordD l)) T.toNat 0 work) := by
 unfold tocsinref8_run.f
 rw [List.length_map, if_pos (by omega), if_pos (by omega), Int.toNat_natCast]
 have := run_l0 l work hn hw hwb T.toNat 0 k [] (List.replicate l.length 0) work (by omega) hk rfl (by simp) hw (fun j hj => by rw [rd_repl]; omega)
 rw [List.nil_append, Nat.zero_add, show ((T.toNat : Nat) : Int) = T by omega] at this
 exact this
-- End
theorem EndR_l0 (l : List Jb) (hl : okN l) (ha : allJ l = true) : ∀ d p k (n : Int), p + d = l.length → 3 * d + l.length + 3 < k → tocsinref8_End.l0 k (l.map toR) n (p : Int) = some (endN (l.drop p) n) := by
 have hn : l.length ≤ 200 := by unfold allJ at ha; rw [Bool.and_eq_true] at ha; exact of_decide_eq_true ha.1
 intro d
 induction d with
 | zero =>
  intro p k n hp hk
  obtain ⟨k, rfl⟩ : ∃ k', k = k' + 1 + 1 := ⟨k - 2, by omega⟩
  unfold tocsinref8_End.l0
  rw [List.length_map, if_neg (by omega), List.drop_of_length_le (by omega)]
  unfold tocsinref8_End.j1
  rfl
 | succ d ih =>
  intro p k n hp hk
  obtain ⟨k, rfl⟩ : ∃ k', k = k' + 1 + 1 := ⟨k - 2, by omega⟩
  unfold tocsinref8_End.l0
  rw [List.length_map, if_pos (by omega), AllR_is l hl (by omega) _ (by omega), Option.bind_some, ha]
  unfold tocsinref8_End.j1
  have hmx := mx_is n (rd_T45 l (p : Int)).f2
  rw [if_pos rfl, List.length_map, if_pos (by omega), if_pos (by omega), rdR2 l p (by omega) (by omega), w64 ((p : Int) + 1) (by omega) (by omega), show (p : Int) + 1 = ((p + 1 : Nat) : Int) by omega, dropJ l p (by omega)]
  simp only [endN]
  by_cases c : (rd_T45 l (p : Int)).f2 > n
  ·rw [if_pos c, ih (p + 1) k _ (by omega) (by omega)]
   rw [if_pos (by omega)] at hmx
   rw [hmx]
  ·rw [if_neg c, ih (p + 1) k _ (by omega) (by omega)]
   have : mx n (rd_T45 l (p : Int)).f2 = n := by rw [hmx]; split <;> omega
   rw [this]
theorem EndR_is (l : List Jb) (hl : okN l) (ha : allJ l = true) (k : Nat) (hk : 4 * l.length + 4 < k) : tocsinref8_End.f k (l.map toR) = some (endJ l) := by
 have := EndR_l0 l hl ha l.length 0 k 0 (by omega) (by omega)
 unfold tocsinref8_End.f endJ
 rw [if_pos ha]
 rw [List.drop_zero] at this
 exact this
-- meets
def goW (l : List Jb) (work : List Int) : List Int := goE l (nI (ordD l)) (endJ l).toNat 0 work
def meetsW (l : List Jb) (work : List Int) : Bool := (List.range l.length).all fun i => decide (rd work (i : Int) ≤ (cntN (i : Int) ((goW l work).take (rJ l i).f2.toNat) : Int))
theorem meetsR_l1 (l : List Jb) (work t : List Int) (ht : t.length ≤ 10000) (hn : l.length ≤ 1000) (hw : work.length = l.length) (i : Nat) (hi : i < l.length) (hd : 0 ≤ (rJ l i).f2) : ∀ d p k (n : Nat), p + d = min (rJ l i).f2.toNat t.length → n = cntN (i : Int) (t.take p) → n ≤ p →
  tocsinref8_meets.l1 (k + 2 * d + 2) (l.map toR) work t (i : Int) (n : Int) (p : Int) = if (cntN (i : Int) (t.take (rJ l i).f2.toNat) : Int) < rd work (i : Int) then some false else tocsinref8_meets.l0 k (l.map toR) work t ((i + 1 : Nat) : Int) := by
 intro d
 induction d with
 | zero =>
  intro p k n hp hc hnp
  have he : cntN (i : Int) (t.take (rJ l i).f2.toNat) = n := by
   rw [hc]
   congr 1
   by_cases c : (rJ l i).f2.toNat ≤ t.length
   ·congr 1; omega
   ·rw [List.take_of_length_le (by omega), List.take_of_length_le (by omega)]
  have stop : tocsinref8_meets.j2 (k + 1) (l.map toR) work t (i : Int) (n : Int) (p : Int) false = if (cntN (i : Int) (t.take (rJ l i).f2.toNat) : Int) < rd work (i : Int) then some false else tocsinref8_meets.l0 k (l.map toR) work t ((i + 1 : Nat) : Int) := by
   unfold tocsinref8_meets.j2
   rw [if_neg (by decide), if_pos (by omega), if_pos (by omega), w64 ((i : Int) + 1) (by omega) (by omega), show (i : Int) + 1 = ((i + 1 : Nat) : Int) by omega, he]
  rw [show k + 2 * 0 + 2 = (k + 1) + 1 by omega]
  conv => lhs; unfold tocsinref8_meets.l1
  by_cases c : (p : Int) < (t.length : Int)
  ·rw [if_pos c, List.length_map, if_pos (by omega), if_pos (by omega), rdR2 l i (by omega) (by omega), decide_eq_false (show ¬ (p : Int) < (rJ l i).f2 by omega)]
   exact stop
  ·rw [if_neg c]
   exact stop
 | succ d ih =>
  intro p k n hp hc hnp
  rw [show k + 2 * (d + 1) + 2 = (k + 2 * d + 2) + 1 + 1 by omega]
  conv => lhs; unfold tocsinref8_meets.l1
  rw [if_pos (show (p : Int) < (t.length : Int) by omega), List.length_map, if_pos (by omega), if_pos (by omega), rdR2 l i (by omega) (by omega), decide_eq_true (show (p : Int) < (rJ l i).f2 by omega)]
  unfold tocsinref8_meets.j2
  have e : t.take (p + 1) = t.take p ++ [rd t (p : Int)] := by
   rw [List.take_succ_eq_append_getElem (show p < t.length by omega)]
   unfold rd
   rw [Int.toNat_natCast, List.getD_eq_getElem?_getD, List.getElem?_eq_getElem (by omega)]
   rfl
  have hc2 : cntN (i : Int) (t.take (p + 1)) = n + if rd t (p : Int) = (i : Int) then 1 else 0 := by
   rw [e, hc]
   unfold cntN
   rw [List.countP_append, List.countP_cons]
   simp
  rw [if_pos rfl, if_pos (by omega), if_pos (by omega), w64 ((p : Int) + 1) (by omega) (by omega), show (p : Int) + 1 = ((p + 1 : Nat) : Int) by omega]
  by_cases c : rd t (p : Int) = (i : Int)
  ·rw [if_pos c] at hc2
   rw [if_pos c, w64 ((n : Int) + 1) (by omega) (by omega), show (n : Int) + 1 = ((n + 1 : Nat) : Int) by omega]
   exact ih (p + 1) k (n + 1) (by omega) hc2.symm (by omega)
  ·rw [if_neg c] at hc2
   rw [if_neg c]
   exact ih (p + 1) k n (by omega) hc2.symm (by omega)
theorem meetsR_l0 (l : List Jb) (work t : List Int) (ht : t.length ≤ 10000) (hn : l.length ≤ 1000) (hw : work.length = l.length) (hd : ∀ i : Nat, i < l.length → 0 ≤ (rJ l i).f2) : ∀ d i k, i + d = l.length → d * 20010 + 5 < k →
  tocsinref8_meets.l0 k (l.map toR) work t (i : Int) = some ((List.range' i d).all fun i => decide (rd work (i : Int) ≤ (cntN (i : Int) (t.take (rJ l i).f2.toNat) : Int))) := by
 intro d
 induction d with
 | zero =>
  intro i k hi hk
  obtain ⟨k, rfl⟩ : ∃ k', k = k' + 1 := ⟨k - 1, by omega⟩
  unfold tocsinref8_meets.l0
  rw [List.length_map, if_neg (by omega)]
  rfl
 | succ d ih =>
  intro i k hi hk
  obtain ⟨M, hM⟩ : ∃ M, M = min (rJ l i).f2.toNat t.length := ⟨_, rfl⟩
  have hM1 : M ≤ 10000 := by omega
  have hkM : d * 20010 + 5 < k - 2 * M - 3 := by
   rw [Nat.succ_mul] at hk
   generalize d * 20010 = D at *
   clear ih hd hM
   omega
  obtain ⟨k, rfl⟩ : ∃ k', k = k' + 2 * M + 2 + 1 := ⟨k - 2 * M - 3, by omega⟩
  have hih := ih (i + 1) k (by omega) (by rw [show k + 2 * M + 2 + 1 - 2 * M - 3 = k by omega] at hkM; exact hkM)
  unfold tocsinref8_meets.l0
  rw [List.length_map, if_pos (by omega)]
  have := meetsR_l1 l work t ht hn hw i (by omega) (hd i (by omega)) M 0 k 0 (by omega) (by rw [List.take_zero]; rfl) (by omega)
  refine this.trans ?_
  rw [List.range'_succ, List.all_cons]
  by_cases c : (cntN (i : Int) (t.take (rJ l i).f2.toNat) : Int) < rd work (i : Int)
  ·rw [if_pos c, decide_eq_false (by omega), Bool.false_and]
  ·rw [if_neg c, decide_eq_true (by omega), Bool.true_and]
   exact hih
theorem meetsR_is (l : List Jb) (hl : okN l) (ha : allJ l = true) (work : List Int) (hn : l.length ≤ 8) (hw : work.length = l.length) (hwb : bdW work) (k : Nat) (hk : 500000 < k) : tocsinref8_meets.f k (l.map toR) work = some (meetsW l work) := by
 have hb := endJ_b l
 have hmul : (endJ l).toNat * (2 * l.length + 10) ≤ 10000 * 26 := Nat.mul_le_mul (by omega) (by omega)
 unfold tocsinref8_meets.f meetsW
 rw [EndR_is l hl ha k (by omega), Option.bind_some, run_is l work (by omega) hw hwb (endJ l) hb.1 hb.2 k (by omega), Option.bind_some, List.range_eq_range']
 exact meetsR_l0 l work (goW l work) (by unfold goW; rw [goE_len]; omega) (by omega) hw (fun i hi => by have := goodJ_b (all_rJ ha i hi); omega) l.length 0 k (by omega) (by omega)

end Go.Proofs.YtobkfbkhcghaeaaGreatDoor.PRv
namespace Go.Proofs.YtobkfbkhcghaeaaGreatDoor.PRv
open Go.RowKit Go.Proofs.YtobkfbkhcghaeaaGreatDoor.PRv Go.Proofs.YtobkfbkhcghaeaaGreatDoorW.PrintWords Go.Proofs.YtobkfbkhcghaeaaGreatDoorW.PrintLast Go.Proofs.YtobkfbkhcghaeaaGreatDoorW.PrintMore 
set_option linter.unusedVariables false
set_option linter.unusedSimpArgs false

/-- What a set of jobs asks for, as a sum over all places. -/
theorem lsum_set (g : Jb → Int) (l : List Jb) : ∀ s : List Int, s.Nodup → (∀ i ∈ s, 0 ≤ i ∧ i < (l.length : Int)) → lsum g (s.map fun i => rd_T45 l i) = sumN l.length (fun i => if (i : Int) ∈ s then g (rJ l i) else 0)
 | [], _, _ => by
  rw [sumN_congr _ (fun _ => 0) _ (fun i _ => if_neg (by simp)), sumN_zero]
  rfl
 | x :: s, hn, hi => by
  have hn2 := List.nodup_cons.1 hn
  obtain ⟨q, rfl⟩ : ∃ q : Nat, x = (q : Int) := ⟨x.toNat, by have := (hi x (List.mem_cons_self ..)).1; omega⟩
  have hq := (hi (q : Int) (List.mem_cons_self ..)).2
  have e := sumN_at (fun i => if (i : Int) ∈ s then g (rJ l i) else 0) (fun i => if (i : Int) ∈ (q : Int) :: s then g (rJ l i) else 0) q (g (rJ l q)) (by
   rw [if_pos (List.mem_cons_self ..), if_neg hn2.1]
   omega) (fun i hne => by
   by_cases c : (i : Int) ∈ s
   ·rw [if_pos c, if_pos (List.mem_cons_of_mem _ c)]
   ·rw [if_neg c, if_neg (fun hm => by
     rcases List.mem_cons.1 hm with h | h
     ·omega
     ·exact c h)]) l.length
  rw [if_pos (by omega)] at e
  rw [e, List.map_cons]
  simp only [lsum]
  rw [lsum_set g l s hn2.2 (fun i h => hi i (List.mem_cons_of_mem _ h))]
  show g (rJ l q) + _ = _
  omega
/-- Work for just these. -/
def forS (l : List Jb) (s work : List Int) : Prop := work.length = l.length ∧ ∀ j : Nat, j < l.length → rd work (j : Int) = if (j : Int) ∈ s then (rJ l j).f4 else 0
theorem forS.bd {l : List Jb} {s work : List Int} (h : forS l s work) (ha : allJ l = true) : bdW work := by
 intro x hx
 obtain ⟨j, hj, rfl⟩ := List.mem_iff_getElem.1 hx
 have := h.2 j (by rw [← h.1]; exact hj)
 have hg := goodJ_b (all_rJ ha j (by rw [← h.1]; exact hj))
 rw [← rd_get work j hj, this]
 split <;> omega
theorem dem_same {l : List Jb} (ha : allJ l = true) {s work : List Int} (hn : s.Nodup) (hi : ∀ i ∈ s, 0 ≤ i ∧ i < (l.length : Int)) (hw : forS l s work) (a d : Int) (h0 : 0 ≤ a) :
  dem (s.map fun i => modJ (rd_T45 l i)) 0 ((s.map fun i => modJ (rd_T45 l i)).map chg) a d = dem l 0 work a d := by
 rw [dem_lsum _ chg a d (fun p hp2 => by
  have := rdJ_mem (s.map fun i => modJ (rd_T45 l i)) (p : Int) (by omega) (by omega)
  obtain ⟨i, h, e⟩ := List.mem_map.1 this
  show 0 ≤ (rd_T45 _ (p : Int)).f1
  rw [← e]
  exact (goodJ_b (allJ_at ha i (hi i h).1 (hi i h).2)).1) h0]
 rw [lsum_two _ (fun x => if a ≤ x.f1 ∧ x.f2 ≤ d then x.f4 else 0) (fun i => modJ (rd_T45 l i)) (fun i => rd_T45 l i) s (fun i h => by
  rw [mod_chg (allJ_at ha i (hi i h).1 (hi i h).2)]
  rfl), lsum_set _ l s hn hi]
 unfold dem
 refine sumN_congr _ _ _ (fun i hil => ?_)
 have hg := (goodJ_b (all_rJ ha i hil)).1
 rw [hw.2 i hil]
 by_cases c : (i : Int) ∈ s
 ·rw [if_pos c, if_pos c]
  by_cases c2 : a ≤ (rJ l i).f1 ∧ (rJ l i).f2 ≤ d
  ·rw [if_pos c2, if_pos ⟨.inr c2.1, c2.2⟩]
  ·rw [if_neg c2, if_neg (fun h => c2 ⟨by rcases h.1 with e | e <;> omega, h.2⟩)]
 ·rw [if_neg c, if_neg c]
  split <;> rfl
theorem meetsW_inv {l : List Jb} (ha : allJ l = true) {work : List Int} (hw : work.length = l.length) (hb : bdW work) (h : meetsW l work = true) : inv l 0 work := by
 unfold meetsW at h
 rw [List.all_eq_true] at h
 have hl : (nI (List.range l.length)).length = l.length := by rw [nI_len, List.length_range]
 refine demand_of (is := nI (List.range l.length)) (rel := fun i => (rd_T45 l i).f1) (t := goW l work) hl.symm ?_ ?_ ?_ ?_ ?_ (fun x hx => (hb x hx).1) hw ?_
 ·intro p q hp hq e
  rw [hl] at hp hq
  rw [nI_range _ p hp, nI_range _ q hq] at e
  omega
 ·intro p hp
  rw [hl] at hp
  rw [nI_range _ p hp]
  omega
 ·intro p hp hne
  have := run_rel l _ 0 work p hp hne
  dsimp only
  unfold goW
  omega
 ·intro p hp
  rw [hl] at hp
  rw [nI_range _ p hp]
 ·intro p hp
  rw [hl] at hp
  have := goodJ_b (all_rJ ha p hp)
  omega
 ·intro p hp
  rw [hl] at hp
  rw [nI_range _ p hp]
  exact of_decide_eq_true (h p (List.mem_range.2 hp))
theorem inv_meetsW {l : List Jb} (ha : allJ l = true) {work : List Int} (h : inv l 0 work) : meetsW l work = true := by
 unfold meetsW
 rw [List.all_eq_true]
 intro p hp
 have hpl := List.mem_range.1 hp
 have hg := goodJ_b (all_rJ ha p hpl)
 have hb := endJ_b l
 have hd := endJ_ge ha _ (rdJ_mem l (p : Int) (by omega) (by omega))
 have := edf_meets l (endJ l).toNat 0 work h p hpl (by omega) (by show (rd_T45 l (p : Int)).f2 ≤ _; omega)
 rw [Int.sub_zero] at this
 exact decide_eq_true this
theorem met_same {l : List Jb} (ha : allJ l = true) {s work : List Int} (hn : s.Nodup) (hi : ∀ i ∈ s, 0 ≤ i ∧ i < (l.length : Int)) (hs : s.length ≤ 200) (hw : forS l s work) : metS l s = meetsW l work := by
 rw [Bool.eq_iff_iff]
 constructor
 ·intro h
  have h1 := inv_meets h
  refine inv_meetsW ha ⟨fun x hx => (hw.bd ha x hx).1, hw.1, fun a d h0 hd => ?_⟩
  rw [← dem_same ha hn hi hw a d h0]
  exact h1.2.2 a d h0 hd
 ·intro h
  have h1 := meetsW_inv ha hw.1 (hw.bd ha) h
  unfold metS
  refine meets_inv (mods_all ha hi hs) ⟨fun x hx => ?_, by rw [List.length_map], fun a d h0 hd => ?_⟩
  ·obtain ⟨y, _, rfl⟩ := List.mem_map.1 hx
   exact (chg_bd y).1
  ·rw [dem_same ha hn hi hw a d h0]
   exact h1.2.2 a d h0 hd
theorem metS_perm {l : List Jb} (ha : allJ l = true) {s s' : List Int} (hp : s.Perm s') (hn : s.Nodup) (hi : ∀ i ∈ s, 0 ≤ i ∧ i < (l.length : Int)) (hs : s.length ≤ 200) : metS l s = metS l s' := by
 obtain ⟨work, hw⟩ : ∃ work, forS l s work := ⟨(List.range l.length).map fun j : Nat => if (j : Int) ∈ s then (rJ l j).f4 else 0, by simp, fun j hj => by
  rw [rd_get _ j (by simpa using hj), List.getElem_map, List.getElem_range]⟩
 rw [met_same ha hn hi hs hw, met_same ha (hp.nodup_iff.1 hn) (fun i h => hi i (hp.mem_iff.2 h)) (by rw [← hp.length_eq]; exact hs) ⟨hw.1, fun j hj => by
  rw [hw.2 j hj]
  by_cases c : (j : Int) ∈ s
  ·rw [if_pos c, if_pos (hp.mem_iff.1 c)]
  ·rw [if_neg c, if_neg (fun h => c (hp.mem_iff.2 h))]⟩]
-- the reference's can
theorem can_l0 {l : List Jb} (hl : okN l) (ha : allJ l = true) (hn : l.length ≤ 8) (s : List Int) (hs : s.Nodup) (hi : ∀ i ∈ s, 0 ≤ i ∧ i < (l.length : Int)) (hsl : s.length ≤ 200) (set : List Bool) (hset : set.length = l.length) (hm : ∀ j : Nat, j < l.length → rdOf false set (j : Int) = decide ((j : Int) ∈ s)) :
  ∀ d i k (work : List Int), i + d = l.length → d + 500001 < k → work.length = l.length → (∀ j : Nat, j < l.length → rd work (j : Int) = if j < i ∧ (j : Int) ∈ s then (rJ l j).f4 else 0) → (∀ j : Nat, j < i → (j : Int) ∈ s → runsJ (rJ l j) = true) →
  tocsinref8_can.l0 k (l.map toR) set work (i : Int) = some ((s.all fun i => runsJ (rd_T45 l i)) && metS l s) := by
 intro d
 induction d with
 | zero =>
  intro i k work hil hk hwl hw hr
  obtain ⟨k, rfl⟩ : ∃ k', k = k' + 1 := ⟨k - 1, by omega⟩
  have hW : forS l s work := ⟨hwl, fun j hj => by
   rw [hw j hj]
   by_cases c : (j : Int) ∈ s
   ·rw [if_pos ⟨by omega, c⟩, if_pos c]
   ·rw [if_neg (fun h => c h.2), if_neg c]⟩
  have hall : (s.all fun i => runsJ (rd_T45 l i)) = true := by
   rw [List.all_eq_true]
   intro x hx
   have := hi x hx
   obtain ⟨q, rfl⟩ : ∃ q : Nat, x = (q : Int) := ⟨x.toNat, by omega⟩
   exact hr q (by omega) hx
  unfold tocsinref8_can.l0
  rw [List.length_map, if_neg (by omega), meetsR_is l hl ha work hn hwl (hW.bd ha) k (by omega), Option.bind_some, hall, Bool.true_and, met_same ha hs hi hsl hW]
 | succ d ih =>
  intro i k work hil hk hwl hw hr
  obtain ⟨k, rfl⟩ : ∃ k', k = k' + 1 := ⟨k - 1, by omega⟩
  unfold tocsinref8_can.l0
  rw [List.length_map, if_pos (by omega), if_pos (by omega), if_pos (by omega), hm i (by omega), rdR l i (by omega) (by omega), w64 ((i : Int) + 1) (by omega) (by omega), show (i : Int) + 1 = ((i + 1 : Nat) : Int) by omega, Int.toNat_natCast]
  by_cases c : (i : Int) ∈ s
  ·rw [if_pos (decide_eq_true c)]
   by_cases c2 : (rJ l i).f4 > (rJ l i).f3
   ·rw [if_pos (show (toR (rd_T45 l (i : Int))).f4 > (toR (rd_T45 l (i : Int))).f3 from c2)]
    have : (s.all fun i => runsJ (rd_T45 l i)) = false := by
     rw [List.all_eq_false]
     refine ⟨(i : Int), c, ?_⟩
     unfold runsJ
     simp only [decide_eq_true_eq]
     show ¬ (rJ l i).f4 ≤ (rJ l i).f3
     omega
    rw [this, Bool.false_and]
   ·rw [if_neg (show ¬ (toR (rd_T45 l (i : Int))).f4 > (toR (rd_T45 l (i : Int))).f3 from c2), if_pos (by omega)]
    refine ih (i + 1) k _ (by omega) (by omega) (by rw [List.length_set]; exact hwl) (fun j hj => ?_) (fun j hj hjs => ?_)
    ·rw [rdI_set _ _ _ _ (by omega), hw j hj]
     by_cases e : j = i
     ·subst e; rw [if_pos rfl, if_pos ⟨by omega, c⟩]; rfl
     ·rw [if_neg e]
      by_cases c3 : j < i ∧ (j : Int) ∈ s
      ·rw [if_pos c3, if_pos ⟨by omega, c3.2⟩]
      ·rw [if_neg c3, if_neg (fun h => c3 ⟨by omega, h.2⟩)]
    ·by_cases e : j = i
     ·subst e; exact decide_eq_true (by show (rJ l j).f4 ≤ (rJ l j).f3; omega)
     ·exact hr j (by omega) hjs
  ·rw [if_neg (by simpa using c)]
   refine ih (i + 1) k work (by omega) (by omega) hwl (fun j hj => ?_) (fun j hj hjs => ?_)
   ·rw [hw j hj]
    by_cases e : j = i
    ·subst e; rw [if_neg (fun h => c h.2), if_neg (fun h => c h.2)]
    ·by_cases c3 : j < i ∧ (j : Int) ∈ s
     ·rw [if_pos c3, if_pos ⟨by omega, c3.2⟩]
     ·rw [if_neg c3, if_neg (fun h => c3 ⟨by omega, h.2⟩)]
   ·by_cases e : j = i
    ·subst e; exact absurd hjs c
    ·exact hr j (by omega) hjs
theorem can_is {l : List Jb} (hl : okN l) (ha : allJ l = true) (hn : l.length ≤ 8) (s : List Int) (hs : s.Nodup) (hi : ∀ i ∈ s, 0 ≤ i ∧ i < (l.length : Int)) (hsl : s.length ≤ 200) (set : List Bool) (hset : set.length = l.length) (hm : ∀ j : Nat, j < l.length → rdOf false set (j : Int) = decide ((j : Int) ∈ s)) (k : Nat) (hk : 500100 < k) :
  tocsinref8_can.f k (l.map toR) set = some ((s.all fun i => runsJ (rd_T45 l i)) && metS l s) := by
 unfold tocsinref8_can.f
 rw [List.length_map, if_pos (by omega), if_pos (by omega), Int.toNat_natCast]
 exact can_l0 hl ha hn s hs hi hsl set hset hm l.length 0 k (List.replicate l.length 0) (by omega) (by omega) (by simp) (fun j hj => by rw [rd_repl, if_neg (by omega)]) (fun j hj => by omega)
-- Best
theorem u64n (n : Nat) (h : n < 1000000) : IntKind.u64.wrap (n : Int) = (n : Int) := by
 have e : IntKind.u64.wrap (n : Int) = (n : Int) % 18446744073709551616 := rfl
 rw [e]
 omega
theorem selQ_mem (n : Nat) (q : Nat → Bool) (j : Nat) (hj : j < n) : (j : Int) ∈ selQ n q ↔ q j = true := by
 unfold selQ nI
 rw [List.mem_map]
 constructor
 ·rintro ⟨i, hi, e⟩
  obtain rfl : i = j := by omega
  exact (List.mem_filter.1 hi).2
 ·intro h
  exact ⟨j, List.mem_filter.2 ⟨List.mem_range.2 hj, h⟩, rfl⟩
theorem selQ_runs (l : List Jb) (q : Nat → Bool) : ((selQ l.length q).all fun i => runsJ (rd_T45 l i)) = mayQ l l.length q := by
 unfold mayQ
 rw [Bool.eq_iff_iff, List.all_eq_true, List.all_eq_true]
 constructor
 ·intro h i hi
  have hil := List.mem_range.1 hi
  cases hq : q i
  ·rfl
  ·rw [Bool.not_true, Bool.false_or]
   exact h _ ((selQ_mem _ _ i hil).2 hq)
 ·intro h i hi
  obtain ⟨j, hj, rfl⟩ := List.mem_map.1 hi
  have h2 := List.mem_filter.1 hj
  have h3 := h j h2.1
  rw [h2.2, Bool.not_true, Bool.false_or] at h3
  exact h3
theorem BestR_l1 {l : List Jb} (ha : allJ l = true) (hn : l.length ≤ 8) (sb : Nat) (hsb : sb < 256) (b : Int) : ∀ d i k (set : List Bool), i + d = l.length → set.length = l.length → (∀ j : Nat, j < i → rdOf false set (j : Int) = sb.testBit j) →
  ∃ set' : List Bool, set'.length = l.length ∧ (∀ j : Nat, j < l.length → rdOf false set' (j : Int) = sb.testBit j) ∧
  tocsinref8_Best.l1 (k + d + 1) (l.map toR) b (sb : Int) set (valQ l i fun i => sb.testBit i) (i : Int) = tocsinref8_Best.l1 (k + 1) (l.map toR) b (sb : Int) set' (valQ l l.length fun i => sb.testBit i) (l.length : Int) := by
 intro d
 induction d with
 | zero =>
  intro i k set hi hs h
  obtain rfl : i = l.length := by omega
  exact ⟨set, hs, h, rfl⟩
 | succ d ih =>
  intro i k set hi hs h
  have hb := bit_is ⟨sb, hsb⟩ ⟨i, by omega⟩
  dsimp only at hb
  have hg := goodJ_b (all_rJ ha i (by omega))
  have hg5 : 0 ≤ (rJ l i).f5 ∧ (rJ l i).f5 ≤ 1000000 := ⟨hg.2.2.2.2.2.2.2.1, hg.2.2.2.2.2.2.2.2.1⟩
  clear hg
  have hv := valQ_bd ha (fun i => sb.testBit i) i (by omega)
  have hv2 : valQ l (i + 1) (fun i => sb.testBit i) = valQ l i (fun i => sb.testBit i) + if sb.testBit i = true then (rJ l i).f5 else 0 := rfl
  have hbit : ((Go.bits .and .i64 (shr .i64 (sb : Int) (i : Int)) 1) == 1) = sb.testBit i := by rw [← hb]; rfl
  obtain ⟨set', h1, h2, h3⟩ := ih (i + 1) k (set.set i (sb.testBit i)) (by omega) (by rw [List.length_set]; exact hs) (fun j hj => by
   rw [rdB_set _ _ _ _ (by omega)]
   by_cases e : j = i
   ·subst e; rw [if_pos rfl]
   ·rw [if_neg e]; exact h j (by omega))
  refine ⟨set', h1, h2, Eq.trans ?_ h3⟩
  rw [show k + (d + 1) + 1 = (k + d + 1) + 1 by omega]
  conv => lhs; unfold tocsinref8_Best.l1
  rw [List.length_map, if_pos (by omega), u64n i (by omega), if_pos (by omega), if_pos (by omega), if_pos (by omega), hbit, Option.bind_some, Int.toNat_natCast, rdB_set _ _ _ _ (by omega), if_pos rfl, w64 ((i : Int) + 1) (by omega) (by omega), show (i : Int) + 1 = ((i + 1 : Nat) : Int) by omega, rdR l i (by omega) (by omega), hv2]
  cases hq : sb.testBit i
  ·rw [if_neg (by decide), if_neg (by decide), Int.add_zero]
  ·rw [if_pos rfl, if_pos rfl]
   show tocsinref8_Best.l1 _ _ _ _ _ (wrap64 (valQ l i (fun i => sb.testBit i) + (rJ l i).f5)) _ = _
   rw [w64 _ (by omega) (by omega)]
theorem BestR_l0 {l : List Jb} (hl : okN l) (ha : allJ l = true) (hn : l.length ≤ 8) : ∀ (d s k : Nat), s + d = 2 ^ l.length → d * 12 + 500200 < k → tocsinref8_Best.l0 k (l.map toR) (bestN l s) (s : Int) = some (bestN l (2 ^ l.length), 0) := by
 have hp : 2 ^ l.length ≤ 256 := Nat.pow_le_pow_right (by decide) hn
 have hsh := shl_is ⟨l.length, by omega⟩
 dsimp only at hsh
 intro d
 induction d with
 | zero =>
  intro s k h hk
  obtain ⟨k, rfl⟩ : ∃ k', k = k' + 1 := ⟨k - 1, by omega⟩
  unfold tocsinref8_Best.l0
  rw [List.length_map, u64n l.length (by omega), if_pos (by omega), hsh, if_neg (by omega), show s = 2 ^ l.length by omega]
 | succ d ih =>
  intro s k h hk
  obtain ⟨k, rfl⟩ : ∃ k', k = k' + l.length + 1 + 1 := ⟨k - l.length - 2, by omega⟩
  unfold tocsinref8_Best.l0
  rw [List.length_map, u64n l.length (by omega), if_pos (by omega), hsh, if_pos (by omega), if_pos (by omega), if_pos (by omega), Int.toNat_natCast]
  obtain ⟨set, h1, h2, h3⟩ := BestR_l1 ha hn s (by omega) (bestN l s) l.length 0 k (List.replicate l.length false) (by omega) (by simp) (fun j hj => by omega)
  refine Eq.trans h3 ?_
  have hih := ih (s + 1) k (by omega) (by omega)
  unfold tocsinref8_Best.l1
  rw [List.length_map, if_neg (by omega), w64 ((s : Int) + 1) (by omega) (by omega), show (s : Int) + 1 = ((s + 1 : Nat) : Int) by omega]
  rw [can_is hl ha hn (selQ l.length fun i => s.testBit i) (selQ_nodup _ _) (fun i hi => by have := selQ_in _ _ i hi; omega) (by have := selQ_len l.length (fun i => s.testBit i); omega) set h1 (fun j hj => by
   rw [h2 j hj, Bool.eq_iff_iff, decide_eq_true_iff, selQ_mem _ _ j hj]) k (by omega), Option.bind_some, selQ_runs]
  have e : bestN l (s + 1) = takeQ l (fun i => s.testBit i) (bestN l s) := rfl
  rw [e] at hih
  unfold takeQ at hih
  by_cases c1 : valQ l l.length (fun i => s.testBit i) > bestN l s
  ·rw [if_pos c1]
   cases c2 : mayQ l l.length (fun i => s.testBit i)
   ·rw [c2, if_neg (by decide)] at hih
    rw [Bool.false_and, if_neg (by decide)]
    exact hih
   ·rw [c2, if_pos rfl, if_pos c1] at hih
    rw [Bool.true_and]
    cases c3 : metS l (selQ l.length fun i => s.testBit i)
    ·rw [c3, if_neg (by decide)] at hih
     rw [if_neg (by decide)]
     exact hih
    ·rw [c3, if_pos rfl] at hih
     rw [if_pos rfl]
     exact hih
  ·rw [if_neg c1]
   rw [if_neg c1] at hih
   split at hih <;> exact hih
theorem BestR_is {l : List Jb} (hl : okN l) (ha : allJ l = true) (hn : l.length ≤ 8) (k : Nat) (hk : 600000 < k) : tocsinref8_Best.f k (l.map toR) = some (bestJ l, 0) := by
 have hp : 2 ^ l.length ≤ 256 := Nat.pow_le_pow_right (by decide) hn
 unfold tocsinref8_Best.f
 rw [AllR_is l hl (by omega) k (by omega), Option.bind_some, ha, if_pos rfl, List.length_map, if_neg (by omega)]
 exact BestR_l0 hl ha hn (2 ^ l.length) 0 k (by omega) (by omega)

end Go.Proofs.YtobkfbkhcghaeaaGreatDoor.PRv
namespace Go.Proofs.YtobkfbkhcghaeaaGreatDoor.PRv
open Go.RowKit Go.Proofs.YtobkfbkhcghaeaaGreatDoor.PRv Go.Proofs.YtobkfbkhcghaeaaGreatDoorW.PrintWords Go.Proofs.YtobkfbkhcghaeaaGreatDoorW.PrintLast Go.Proofs.YtobkfbkhcghaeaaGreatDoorW.PrintMore 
set_option linter.unusedVariables false
set_option linter.unusedSimpArgs false

-- who is tried next
def PickV (l : List Jb) (un : Nat → Bool) (i : Nat) (b : Int) : Prop :=
 (b = -1 ∧ ∀ j, j < i → un j = false) ∨ ∃ q : Nat, b = (q : Int) ∧ q < i ∧ un q = true ∧ ∀ j, j < i → un j = true → (rJ l j).f5 < (rJ l q).f5 ∨ (rJ l j).f5 = (rJ l q).f5 ∧ q ≤ j
theorem PickV.uniq {l : List Jb} {p : Nat → Bool} {i : Nat} {a b : Int} (h1 : PickV l p i a) (h2 : PickV l p i b) : a = b := by
 rcases h1 with ⟨rfl, n1⟩ | ⟨q1, rfl, l1, p1, m1⟩
 ·rcases h2 with ⟨rfl, n2⟩ | ⟨q2, rfl, l2, p2, m2⟩
  ·rfl
  ·rw [n1 q2 l2] at p2; cases p2
 ·rcases h2 with ⟨rfl, n2⟩ | ⟨q2, rfl, l2, p2, m2⟩
  ·rw [n2 q1 l1] at p1; cases p1
  ·have a1 := m1 q2 l2 p2
   have a2 := m2 q1 l1 p1
   omega
theorem PickV.bd {l : List Jb} {p : Nat → Bool} {i : Nat} {b : Int} (h : PickV l p i b) : -1 ≤ b ∧ b < (i : Int) := by
 rcases h with ⟨rfl, _⟩ | ⟨q, rfl, h, _⟩ <;> omega
theorem rdR5 (l : List Jb) (i : Int) (h0 : 0 ≤ i) (h : i < l.length) : (rd_T46 (l.map toR) i).f5 = (rd_T45 l i).f5 := by rw [rdR l i h0 h]; rfl
theorem GreedyR_l1 (l : List Jb) (hn : l.length ≤ 1000) (set tried : List Bool) (ht : tried.length = l.length) (n : Int) : ∀ d i k (b : Int), i + d = l.length → PickV l (fun j => !rdOf false tried (j : Int)) i b →
  ∃ b', PickV l (fun j => !rdOf false tried (j : Int)) l.length b' ∧ tocsinref8_Greedy.l1 (k + d + 1) (l.map toR) set tried n b (i : Int) = tocsinref8_Greedy.l1 (k + 1) (l.map toR) set tried n b' (l.length : Int) := by
 intro d
 induction d with
 | zero =>
  intro i k b hi h
  obtain rfl : i = l.length := by omega
  exact ⟨b, h, rfl⟩
 | succ d ih =>
  intro i k b hi h
  have hb := h.bd
  have keep : (rdOf false tried (i : Int) = false → ∃ q : Nat, b = (q : Int) ∧ (rJ l i).f5 ≤ (rJ l q).f5) → PickV l (fun j => !rdOf false tried (j : Int)) (i + 1) b := fun hh => by
   rcases h with ⟨rfl, n1⟩ | ⟨q1, rfl, l1, p1, m1⟩
   ·refine .inl ⟨rfl, fun j hj => ?_⟩
    by_cases e : j = i
    ·subst e
     dsimp only
     cases c : rdOf false tried (j : Int) with
     | true => rfl
     | false => obtain ⟨q, e, _⟩ := hh c; omega
    ·exact n1 j (by omega)
   ·refine .inr ⟨q1, rfl, by omega, p1, fun j hj hp => ?_⟩
    by_cases e : j = i
    ·subst e
     obtain ⟨q, e, hq⟩ := hh (by simpa using hp)
     obtain rfl : q1 = q := by omega
     omega
    ·exact m1 j (by omega) hp
  have take : rdOf false tried (i : Int) = false → (∀ q : Nat, b = (q : Int) → (rJ l q).f5 < (rJ l i).f5) → PickV l (fun j => !rdOf false tried (j : Int)) (i + 1) (i : Int) := fun hp hh => by
   refine .inr ⟨i, rfl, by omega, by dsimp only; rw [hp]; rfl, fun j hj hpj => ?_⟩
   by_cases e : j = i
   ·subst e; omega
   ·rcases h with ⟨rfl, n1⟩ | ⟨q1, rfl, l1, p1, m1⟩
    ·have := n1 j (by omega)
     dsimp only at this hpj
     rw [this] at hpj; cases hpj
    ·have := m1 j (by omega) hpj
     have := hh q1 rfl
     omega
  have go : ∀ b2, PickV l (fun j => !rdOf false tried (j : Int)) (i + 1) b2 → tocsinref8_Greedy.l1 (k + (d + 1) + 1) (l.map toR) set tried n b (i : Int) = tocsinref8_Greedy.l1 (k + d + 1) (l.map toR) set tried n b2 ((i + 1 : Nat) : Int) → ∃ b', PickV l (fun j => !rdOf false tried (j : Int)) l.length b' ∧ tocsinref8_Greedy.l1 (k + (d + 1) + 1) (l.map toR) set tried n b (i : Int) = tocsinref8_Greedy.l1 (k + 1) (l.map toR) set tried n b' (l.length : Int) := fun b2 hb2 e => by
   obtain ⟨b', h1, h2⟩ := ih (i + 1) k b2 (by omega) hb2
   exact ⟨b', h1, e.trans h2⟩
  have step : tocsinref8_Greedy.l1 (k + (d + 1) + 1) (l.map toR) set tried n b (i : Int) = if rdOf false tried (i : Int) = true then tocsinref8_Greedy.l1 (k + d + 1) (l.map toR) set tried n b ((i + 1 : Nat) : Int) else if b < 0 then tocsinref8_Greedy.l1 (k + d + 1) (l.map toR) set tried n (i : Int) ((i + 1 : Nat) : Int) else if (rd_T45 l (i : Int)).f5 > (rd_T45 l b).f5 then tocsinref8_Greedy.l1 (k + d + 1) (l.map toR) set tried n (i : Int) ((i + 1 : Nat) : Int) else tocsinref8_Greedy.l1 (k + d + 1) (l.map toR) set tried n b ((i + 1 : Nat) : Int) := by
   rw [show k + (d + 1) + 1 = (k + d + 1) + 1 by omega]
   conv => lhs; unfold tocsinref8_Greedy.l1
   rw [List.length_map, if_pos (by omega), if_pos (by omega), if_pos (by omega), w64 ((i : Int) + 1) (by omega) (by omega), show (i : Int) + 1 = ((i + 1 : Nat) : Int) by omega]
   by_cases c : rdOf false tried (i : Int) = true
   ·rw [if_pos c, if_pos c]
   rw [if_neg c, if_neg c]
   by_cases c1 : b < 0
   ·rw [if_pos c1, if_pos c1]
   ·rw [if_neg c1, if_neg c1, if_pos (by omega), if_pos (by omega), rdR5 l i (by omega) (by omega), rdR5 l b (by omega) (by omega)]
  by_cases c : rdOf false tried (i : Int) = true
  ·rw [if_pos c] at step
   exact go b (keep fun hp => by rw [c] at hp; cases hp) step
  ·rw [if_neg c] at step
   have cf : rdOf false tried (i : Int) = false := by simpa using c
   by_cases c1 : b < 0
   ·rw [if_pos c1] at step
    exact go _ (take cf (fun q e => by omega)) step
   ·rw [if_neg c1] at step
    by_cases c2 : (rd_T45 l (i : Int)).f5 > (rd_T45 l b).f5
    ·rw [if_pos c2] at step
     exact go _ (take cf (fun q e => by subst e; exact c2)) step
    ·rw [if_neg c2] at step
     refine go b (keep fun _ => ⟨b.toNat, by omega, ?_⟩) step
     rw [show b = ((b.toNat : Nat) : Int) by omega] at c2
     show (rd_T45 l (i : Int)).f5 ≤ (rd_T45 l ((b.toNat : Nat) : Int)).f5
     omega
-- all places, by value
def ordA (l : List Jb) : List Nat := srt (keyV l) (List.range l.length)
theorem ordA_perm (l : List Jb) : (ordA l).Perm (List.range l.length) := srt_perm _ _
theorem ordA_len (l : List Jb) : (ordA l).length = l.length := by rw [(ordA_perm l).length_eq, List.length_range]
theorem ordA_nodup (l : List Jb) : (ordA l).Nodup := (ordA_perm l).nodup_iff.2 List.nodup_range
theorem ordA_filter (l : List Jb) : (ordA l).filter (fun i => runsJ (rJ l i)) = srt (keyV l) (okI l) := by
 refine uniq_sorted (keyV l) _ _ ?_ ((srt_sorted (keyV l) (List.range l.length)).filter _) (srt_sorted _ _)
 exact ((ordA_perm l).filter _).trans (srt_perm _ _).symm
/-- The head of what is left is the one to be tried. -/
theorem pick_head {l : List Jb} {p : Nat} (hp : p < l.length) {un : Nat → Bool} (hu : ∀ j, j < l.length → (un j = true ↔ j ∈ (ordA l).drop p)) (x : Nat) (t : List Nat) (hd : (ordA l).drop p = x :: t) : PickV l un l.length (x : Int) := by
 have hs : ((ordA l).drop p).Pairwise (fun a b => leK (keyV l) a b = true) := List.Pairwise.sublist (List.drop_sublist _ _) (srt_sorted (keyV l) (List.range l.length))
 have hx : x < l.length := by
  have : x ∈ ordA l := (List.drop_sublist p _).subset (by rw [hd]; exact List.mem_cons_self ..)
  exact List.mem_range.1 ((ordA_perm l).mem_iff.1 this)
 refine .inr ⟨x, rfl, hx, (hu x hx).2 (by rw [hd]; exact List.mem_cons_self ..), fun j hj hpj => ?_⟩
 have hm := (hu j hj).1 hpj
 rw [hd] at hm hs
 rcases List.mem_cons.1 hm with rfl | hm
 ·omega
 ·have := of_decide_eq_true ((List.pairwise_cons.1 hs).1 j hm)
  unfold keyV at this
  show (rd_T45 l (j : Int)).f5 < (rd_T45 l (x : Int)).f5 ∨ (rd_T45 l (j : Int)).f5 = (rd_T45 l (x : Int)).f5 ∧ x ≤ j
  omega
def keepA (mt : List Int → Bool) (rn : Int → Bool) : List Int → List Int → List Int
 | [], s => s
 | i :: o, s => keepA mt rn o (if (rn i && mt (s ++ [i])) = true then s ++ [i] else s)
theorem keepA_filter (mt : List Int → Bool) (rn : Int → Bool) : ∀ o s, keepA mt rn o s = keepL mt (o.filter rn) s
 | [], s => rfl
 | i :: o, s => by
  simp only [keepA]
  rw [keepA_filter mt rn o]
  cases h : rn i
  ·rw [List.filter_cons_of_neg (by simp [h])]
   rfl
  ·rw [List.filter_cons_of_pos h]
   simp only [keepL, Bool.true_and]
theorem kept_A (l : List Jb) : keepA (metS l) (fun i => runsJ (rd_T45 l i)) (nI (ordA l)) [] = keptL l := by
 rw [keepA_filter]
 unfold keptL ordV
 rw [← ordA_filter]
 unfold nI
 rw [List.filter_map]
 rfl
/-- A trace for a set: the reference's last loop. -/
theorem GreedyR_l2 {l : List Jb} (hl : okN l) (ha : allJ l = true) (hn : l.length ≤ 8) (s : List Int) (set : List Bool) (hset : set.length = l.length) (hm : ∀ j : Nat, j < l.length → rdOf false set (j : Int) = decide ((j : Int) ∈ s)) :
  ∀ d i k (work : List Int), i + d = l.length → d + 500001 < k → work.length = l.length → (∀ j : Nat, j < l.length → rd work (j : Int) = if j < i ∧ (j : Int) ∈ s then (rJ l j).f4 else 0) →
  ∃ work', forS l s work' ∧ tocsinref8_Greedy.l2 k (l.map toR) set work (i : Int) = some (goW l work', 0) := by
 intro d
 induction d with
 | zero =>
  intro i k work hil hk hwl hw
  obtain ⟨k, rfl⟩ : ∃ k', k = k' + 1 := ⟨k - 1, by omega⟩
  have hb := endJ_b l
  have hmul : (endJ l).toNat * (2 * l.length + 10) ≤ 10000 * 26 := Nat.mul_le_mul (by omega) (by omega)
  have hW : forS l s work := ⟨hwl, fun j hj => by
   rw [hw j hj]
   by_cases c : (j : Int) ∈ s
   ·rw [if_pos ⟨by omega, c⟩, if_pos c]
   ·rw [if_neg (fun h => c h.2), if_neg c]⟩
  refine ⟨work, hW, ?_⟩
  unfold tocsinref8_Greedy.l2
  rw [List.length_map, if_neg (by omega), EndR_is l hl ha k (by omega), Option.bind_some, run_is l work (by omega) hwl (hW.bd ha) (endJ l) hb.1 hb.2 k (by omega), Option.bind_some]
  rfl
 | succ d ih =>
  intro i k work hil hk hwl hw
  obtain ⟨k, rfl⟩ : ∃ k', k = k' + 1 := ⟨k - 1, by omega⟩
  unfold tocsinref8_Greedy.l2
  rw [List.length_map, if_pos (by omega), if_pos (by omega), if_pos (by omega), hm i (by omega), rdR l i (by omega) (by omega), w64 ((i : Int) + 1) (by omega) (by omega), show (i : Int) + 1 = ((i + 1 : Nat) : Int) by omega, Int.toNat_natCast]
  by_cases c : (i : Int) ∈ s
  ·rw [if_pos (decide_eq_true c), if_pos (by omega)]
   refine ih (i + 1) k _ (by omega) (by omega) (by rw [List.length_set]; exact hwl) (fun j hj => ?_)
   rw [rdI_set _ _ _ _ (by omega), hw j hj]
   by_cases e : j = i
   ·subst e; rw [if_pos rfl, if_pos ⟨by omega, c⟩]; rfl
   ·rw [if_neg e]
    by_cases c3 : j < i ∧ (j : Int) ∈ s
    ·rw [if_pos c3, if_pos ⟨by omega, c3.2⟩]
    ·rw [if_neg c3, if_neg (fun h => c3 ⟨by omega, h.2⟩)]
  ·rw [if_neg (by simpa using c)]
   refine ih (i + 1) k work (by omega) (by omega) hwl (fun j hj => ?_)
   rw [hw j hj]
   by_cases e : j = i
   ·subst e; rw [if_neg (fun h => c h.2), if_neg (fun h => c h.2)]
   ·by_cases c3 : j < i ∧ (j : Int) ∈ s
    ·rw [if_pos c3, if_pos ⟨by omega, c3.2⟩]
    ·rw [if_neg c3, if_neg (fun h => c3 ⟨by omega, h.2⟩)]
theorem drop_at (l : List Nat) (p : Nat) (h : p < l.length) : l.drop p = l[p] :: l.drop (p + 1) := List.drop_eq_getElem_cons h
theorem GreedyR_l0 {l : List Jb} (hl : okN l) (ha : allJ l = true) (hn : l.length ≤ 8) : ∀ (d p k : Nat) (set tried : List Bool) (s : List Int), p + d = l.length → d * 12 + 500200 < k → set.length = l.length → tried.length = l.length →
  (∀ j : Nat, j < l.length → rdOf false set (j : Int) = decide ((j : Int) ∈ s)) → (∀ j : Nat, j < l.length → rdOf false tried (j : Int) = decide (j ∈ (ordA l).take p)) → s.Nodup → s.length ≤ p → (∀ i ∈ s, ∃ j : Nat, i = (j : Int) ∧ j ∈ (ordA l).take p) → (s.all fun i => runsJ (rd_T45 l i)) = true →
  ∃ work', forS l (keepA (metS l) (fun i => runsJ (rd_T45 l i)) (nI ((ordA l).drop p)) s) work' ∧ tocsinref8_Greedy.l0 k (l.map toR) set tried (p : Int) = some (goW l work', 0) := by
 have hA := ordA_len l
 have hAn := ordA_nodup l
 intro d
 induction d with
 | zero =>
  intro p k set tried s hp hk hs ht hms hmt hsn hsp hsi hsr
  obtain ⟨k, rfl⟩ : ∃ k', k = k' + 1 := ⟨k - 1, by omega⟩
  rw [List.drop_of_length_le (by omega)]
  simp only [nI, List.map_nil, keepA]
  unfold tocsinref8_Greedy.l0
  rw [List.length_map, if_neg (by omega), if_pos (by omega), if_pos (by omega), Int.toNat_natCast]
  exact GreedyR_l2 hl ha hn s set hs hms l.length 0 k (List.replicate l.length 0) (by omega) (by omega) (by simp) (fun j hj => by rw [rd_repl, if_neg (by omega)])
 | succ d ih =>
  intro p k set tried s hp hk hs ht hms hmt hsn hsp hsi hsr
  obtain ⟨k, rfl⟩ : ∃ k', k = k' + l.length + 1 + 1 := ⟨k - l.length - 2, by omega⟩
  have hd := drop_at (ordA l) p (by omega)
  obtain ⟨x, hx⟩ : ∃ x, x = (ordA l)[p]'(by omega) := ⟨_, rfl⟩
  rw [← hx] at hd
  have htk : (ordA l).take (p + 1) = (ordA l).take p ++ [x] := by rw [hx]; exact List.take_succ_eq_append_getElem (by omega)
  have hxl : x < l.length := by
   have : x ∈ ordA l := by rw [hx]; exact List.getElem_mem _
   exact List.mem_range.1 ((ordA_perm l).mem_iff.1 this)
  have hnx : x ∉ (ordA l).take p := by
   intro hm
   have h1 : ((ordA l).take p ++ (ordA l).drop p).Nodup := by rw [List.take_append_drop]; exact hAn
   exact (List.nodup_append.1 h1).2.2 x hm x (by rw [hd]; exact List.mem_cons_self ..) rfl
  have hxs : (x : Int) ∉ s := fun hm => by
   obtain ⟨j, e, hj⟩ := hsi _ hm
   obtain rfl : x = j := by omega
   exact hnx hj
  unfold tocsinref8_Greedy.l0
  rw [List.length_map, if_pos (by omega)]
  obtain ⟨b, hb, e1⟩ := GreedyR_l1 l (by omega) set tried ht (p : Int) l.length 0 k (-1) (by omega) (.inl ⟨rfl, fun j hj => by omega⟩)
  have hbx : b = (x : Int) := by
   refine hb.uniq (pick_head (p := p) (by omega) (fun j hj => ?_) x _ hd)
   rw [hmt j hj]
   have hmem : j ∈ ordA l := (ordA_perm l).mem_iff.2 (List.mem_range.2 hj)
   rw [← List.take_append_drop p (ordA l), List.mem_append] at hmem
   constructor
   ·intro h
    have : j ∉ (ordA l).take p := by simpa using h
    exact hmem.resolve_left this
   ·intro h
    have : j ∉ (ordA l).take p := fun h2 => by
     have h1 : ((ordA l).take p ++ (ordA l).drop p).Nodup := by rw [List.take_append_drop]; exact hAn
     exact (List.nodup_append.1 h1).2.2 j h2 j h rfl
    simpa using this
  subst hbx
  rw [Int.natCast_zero] at e1
  rw [e1]
  unfold tocsinref8_Greedy.l1
  have hsi2 : ∀ i ∈ s ++ [(x : Int)], ∃ j : Nat, i = (j : Int) ∧ j ∈ (ordA l).take (p + 1) := fun i hi => by
   rw [htk]
   rcases List.mem_append.1 hi with h | h
   ·obtain ⟨j, e, hj⟩ := hsi i h
    exact ⟨j, e, List.mem_append_left _ hj⟩
   ·exact ⟨x, List.mem_singleton.1 h, List.mem_append_right _ (List.mem_singleton.2 rfl)⟩
  have hrange : ∀ i ∈ s ++ [(x : Int)], 0 ≤ i ∧ i < (l.length : Int) := fun i hi => by
   obtain ⟨j, rfl, hj⟩ := hsi2 i hi
   have := List.mem_range.1 ((ordA_perm l).mem_iff.1 ((List.take_sublist _ _).subset hj))
   omega
  have hnd : (s ++ [(x : Int)]).Nodup := by
   rw [List.nodup_append]
   refine ⟨hsn, by simp, fun a ha2 b hb2 e => ?_⟩
   rw [List.mem_singleton.1 hb2] at e
   subst e
   exact hxs ha2
  have hset2 : ∀ j : Nat, j < l.length → rdOf false (set.set x true) (j : Int) = decide ((j : Int) ∈ s ++ [(x : Int)]) := fun j hj => by
   rw [rdB_set _ _ _ _ (by omega)]
   by_cases e : j = x
   ·subst e; rw [if_pos rfl]; symm; exact decide_eq_true (List.mem_append_right _ (List.mem_singleton.2 rfl))
   ·rw [if_neg e, hms j hj, decide_eq_decide, List.mem_append, List.mem_singleton]
    exact ⟨.inl, fun h => h.resolve_right (by omega)⟩
  have htr2 : ∀ j : Nat, j < l.length → rdOf false (tried.set x true) (j : Int) = decide (j ∈ (ordA l).take (p + 1)) := fun j hj => by
   rw [rdB_set _ _ _ _ (by omega), htk]
   by_cases e : j = x
   ·subst e; rw [if_pos rfl]; symm; exact decide_eq_true (List.mem_append_right _ (List.mem_singleton.2 rfl))
   ·rw [if_neg e, hmt j hj, decide_eq_decide, List.mem_append, List.mem_singleton]
    exact ⟨.inl, fun h => h.resolve_right e⟩
  have hslen : (s ++ [(x : Int)]).length ≤ 200 := by rw [List.length_append, List.length_singleton]; omega
  have hrun2 : ((s ++ [(x : Int)]).all fun i => runsJ (rd_T45 l i)) = runsJ (rd_T45 l (x : Int)) := by
   rw [List.all_append, hsr, Bool.true_and]
   simp
  rw [List.length_map, if_neg (by omega), if_pos (by omega), if_pos (by omega), Option.bind_some, if_pos (by omega), Option.bind_some, Int.toNat_natCast]
  rw [can_is hl ha hn (s ++ [(x : Int)]) hnd hrange hslen (set.set x true) (by rw [List.length_set]; exact hs) hset2 k (by omega), Option.bind_some, hrun2, w64 ((p : Int) + 1) (by omega) (by omega), show (p : Int) + 1 = ((p + 1 : Nat) : Int) by omega, hd]
  simp only [nI, List.map_cons, keepA]
  have hsiw : ∀ i ∈ s, ∃ j : Nat, i = (j : Int) ∧ j ∈ (ordA l).take (p + 1) := fun i hi => hsi2 i (List.mem_append_left _ hi)
  cases hc : (runsJ (rd_T45 l (x : Int)) && metS l (s ++ [(x : Int)]))
  ·rw [if_neg (by decide), if_neg (by decide)]
   refine ih (p + 1) k _ _ s (by omega) (by omega) (by rw [List.length_set, List.length_set]; exact hs) (by rw [List.length_set]; exact ht) (fun j hj => ?_) htr2 hsn (by omega) hsiw hsr
   rw [rdB_set _ _ _ _ (by rw [List.length_set]; omega), rdB_set _ _ _ _ (by omega)]
   by_cases e : j = x
   ·subst e; rw [if_pos rfl]; symm; exact decide_eq_false hxs
   ·rw [if_neg e, if_neg e]; exact hms j hj
  ·rw [if_pos rfl, if_pos rfl]
   rw [Bool.and_eq_true] at hc
   exact ih (p + 1) k _ _ (s ++ [(x : Int)]) (by omega) (by omega) (by rw [List.length_set]; exact hs) (by rw [List.length_set]; exact ht) hset2 htr2 hnd (by rw [List.length_append, List.length_singleton]; omega) hsi2 (by rw [hrun2]; exact hc.1)
/-- The run of a part, its places put back, is the run of all, with no work for the others. -/
theorem back_sim {l js : List Jb} {ks : List Int} (hlen : js.length = ks.length) (hks : ∀ p : Nat, p < ks.length → 0 ≤ rd ks (p : Int) ∧ rd ks (p : Int) < (l.length : Int)) (hasc : ∀ p q : Nat, p < q → q < ks.length → rd ks (p : Int) < rd ks (q : Int)) (hj : ∀ p : Nat, p < ks.length → rJ js p = rd_T45 l (rd ks (p : Int))) :
  ∀ (f : Nat) (t : Int) (leftS left : List Int), leftS.length = ks.length → left.length = l.length → (∀ p : Nat, p < ks.length → rd leftS (p : Int) = rd left (rd ks (p : Int))) → (∀ j : Nat, j < l.length → (j : Int) ∉ ks → rd left (j : Int) = 0) →
  backT ks (goE js (nI (ordD js)) f t leftS) = goE l (nI (ordD l)) f t left
 | 0, t, leftS, left, _, _, _, _ => rfl
 | f + 1, t, leftS, left, h1, h2, h3, h4 => by
  have hP := pickE_is js t leftS
  have hQ := pickE_is l t left
  have hb := hP.bd
  have find : ∀ j : Nat, j < l.length → mayE l t left (j : Int) = true → ∃ p : Nat, p < ks.length ∧ rd ks (p : Int) = (j : Int) ∧ mayE js t leftS (p : Int) = true := fun j hjl hm => by
   have hmm := (may_iff l t left j).1 hm
   by_cases c : (j : Int) ∈ ks
   ·obtain ⟨p, hp, e⟩ := List.mem_iff_getElem.1 c
    rw [← rd_get ks p hp] at e
    refine ⟨p, hp, e, (may_iff js t leftS p).2 ⟨?_, ?_⟩⟩
    ·rw [hj p hp, e]; exact hmm.1
    ·rw [h3 p hp, e]; exact hmm.2
   ·have := h4 j hjl c
    omega
  have e : bk ks (pickE js t leftS) = pickE l t left := by
   refine Pick.uniq (l := l) (p := fun j => mayE l t left (j : Int)) (i := l.length) ?_ hQ
   rcases hP with ⟨e, n1⟩ | ⟨q, e, l1, p1, m1⟩
   ·rw [e]
    refine .inl ⟨by unfold bk; rw [if_pos rfl], fun j hj2 => ?_⟩
    cases c : mayE l t left (j : Int) with
    | false => exact c
    | true =>
     obtain ⟨p, hp, _, hm⟩ := find j hj2 c
     have := n1 p (by omega)
     dsimp only at this
     rw [this] at hm; cases hm
   ·rw [e]
    have hq := hks q (by omega)
    have hmq := (may_iff js t leftS q).1 p1
    obtain ⟨r, hr⟩ : ∃ r : Nat, rd ks (q : Int) = (r : Int) := ⟨(rd ks (q : Int)).toNat, by omega⟩
    have hjq := hj q (by omega)
    rw [hr] at hjq
    refine .inr ⟨r, by unfold bk; rw [if_neg (by omega), hr], by omega, (may_iff l t left r).2 ⟨?_, ?_⟩, fun j hj2 hm => ?_⟩
    ·show (rd_T45 l (r : Int)).f1 ≤ t
     rw [← hjq]; exact hmq.1
    ·have := h3 q (by omega)
     rw [hr] at this
     omega
    ·obtain ⟨p, hp, e2, hm2⟩ := find j hj2 hm
     have hmin := m1 p (by omega) hm2
     have hjp := hj p hp
     rw [e2] at hjp
     rw [hjq, hjp] at hmin
     show (rd_T45 l (r : Int)).f2 < (rd_T45 l (j : Int)).f2 ∨ (rd_T45 l (r : Int)).f2 = (rd_T45 l (j : Int)).f2 ∧ r ≤ j
     rcases hmin with h | ⟨h, hqp⟩
     ·exact .inl h
     ·refine .inr ⟨h, ?_⟩
      by_cases c : q = p
      ·subst c; omega
      ·have := hasc q p (by omega) hp
       omega
  rw [goE_step, goE_step, ← e]
  unfold backT
  rw [List.map_cons]
  congr 1
  by_cases c : pickE js t leftS < 0
  ·rw [if_pos c]
   have : bk ks (pickE js t leftS) < 0 := by unfold bk; rw [if_pos (by omega)]; decide
   rw [if_pos this]
   exact back_sim hlen hks hasc hj f (t + 1) leftS left h1 h2 h3 h4
  ·obtain ⟨q, hq⟩ : ∃ q : Nat, pickE js t leftS = (q : Int) := ⟨(pickE js t leftS).toNat, by omega⟩
   rw [hq] at hb c ⊢
   have hk := hks q (by omega)
   obtain ⟨r, hr⟩ : ∃ r : Nat, rd ks (q : Int) = (r : Int) := ⟨(rd ks (q : Int)).toNat, by omega⟩
   have hbk : bk ks (q : Int) = (r : Int) := by unfold bk; rw [if_neg (by omega), hr]
   rw [hbk, if_neg c, if_neg (by omega), Int.toNat_natCast, Int.toNat_natCast]
   have h3q := h3 q (by omega)
   rw [hr] at h3q
   refine back_sim hlen hks hasc hj f (t + 1) _ _ (by rw [List.length_set]; exact h1) (by rw [List.length_set]; exact h2) (fun p hp => ?_) (fun j hj2 hn => ?_)
   ·have hkp := hks p hp
    obtain ⟨r2, hr2⟩ : ∃ r2 : Nat, rd ks (p : Int) = (r2 : Int) := ⟨(rd ks (p : Int)).toNat, by omega⟩
    have h3p := h3 p hp
    rw [hr2] at h3p ⊢
    rw [rdI_set _ _ _ _ (by omega), rdI_set _ _ _ _ (by omega)]
    by_cases c2 : p = q
    ·subst c2
     rw [if_pos rfl, if_pos (by omega), h3q]
    ·rw [if_neg c2, if_neg (fun e2 => by
      subst e2
      rcases Nat.lt_or_gt_of_ne c2 with h | h
      ·have := hasc p q h (by omega); omega
      ·have := hasc q p h hp; omega)]
     exact h3p
   ·rw [rdI_set _ _ _ _ (by omega), if_neg (fun e2 => hn (by
     rw [e2, ← hr]
     exact rd_mem ks (q : Int) (by omega) (by omega)))]
    exact h4 j hj2 hn
theorem ksG_asc (l : List Jb) : ∀ p q : Nat, p < q → q < (ksG l).length → rd (ksG l) (p : Int) < rd (ksG l) (q : Int) := by
 intro p q hpq hq
 have hs : (ksG l).Pairwise (fun x y => decide (x ≤ y) = true) := List.pairwise_mergeSort (fun a b c h1 h2 => by simp only [decide_eq_true_eq] at *; omega) (fun a b => by simp only [Bool.or_eq_true, decide_eq_true_eq]; omega) _
 have h1 := List.pairwise_iff_getElem.1 hs p q (by omega) hq hpq
 have h2 := List.pairwise_iff_getElem.1 (ks_nodup l) p q (by omega) hq hpq
 rw [rd_get _ p (by omega), rd_get _ q hq]
 have := of_decide_eq_true h1
 omega
theorem greedy_goW {l : List Jb} (ha : allJ l = true) {work : List Int} (hw : forS l (keptL l) work) : goW l work = greedyT l := by
 have hb := endJ_b l
 rw [greedyT_is ha, show min (endJ l) 10000 = endJ l by omega]
 unfold goW
 refine (back_sim (jobsAt_len l (ksG l)) (fun p hp => ksG_in l _ (ks_mem l p hp)) (ksG_asc l) (fun p hp => jobs_rJ l _ p hp) (endJ l).toNat 0 _ work (by rw [List.length_map, jobsAt_len]) hw.1 (fun p hp => ?_) (fun j hj hn => ?_)).symm
 ·have hin := ksG_in l _ (ks_mem l p hp)
  rw [rd_need _ _ p (by rw [jobsAt_len]; exact hp), jobs_rJ l _ p hp]
  obtain ⟨r, hr⟩ : ∃ r : Nat, rd (ksG l) (p : Int) = (r : Int) := ⟨(rd (ksG l) (p : Int)).toNat, by omega⟩
  have hmem : rd (ksG l) (p : Int) ∈ keptL l := (ks_perm l).mem_iff.1 (ks_mem l p hp)
  have hrun := ks_runs l _ hmem
  have hg := allJ_at ha _ hin.1 hin.2
  rw [hr] at hmem hrun hg hin ⊢
  rw [hw.2 r (by omega), if_pos hmem]
  unfold workJ
  rw [if_pos hg, if_pos hrun]
 ·rw [hw.2 j hj, if_neg (fun h => hn ((ks_perm l).mem_iff.2 h))]
theorem GreedyR_is {l : List Jb} (hl : okN l) (ha : allJ l = true) (hn : l.length ≤ 8) (k : Nat) (hk : 600000 < k) : tocsinref8_Greedy.f k (l.map toR) = some (greedyT l, 0) := by
 unfold tocsinref8_Greedy.f
 rw [AllR_is l hl (by omega) k (by omega), Option.bind_some, ha, if_pos rfl, List.length_map, if_pos (by omega), if_pos (by omega), Int.toNat_natCast]
 obtain ⟨work, h1, h2⟩ := GreedyR_l0 hl ha hn l.length 0 k (List.replicate l.length false) (List.replicate l.length false) [] (by omega) (by omega) (by simp) (by simp) (fun j hj => by
  unfold rdOf
  rw [List.getD_eq_getElem?_getD, List.getElem?_replicate]
  simp only [List.take_zero, List.not_mem_nil, decide_false]
  split <;> rfl) (fun j hj => by
  unfold rdOf
  rw [List.getD_eq_getElem?_getD, List.getElem?_replicate]
  simp only [List.take_zero, List.not_mem_nil, decide_false]
  split <;> rfl) (by simp) (by simp) (fun i hi => by cases hi) rfl
 rw [List.drop_zero, kept_A] at h1
 rw [Int.natCast_zero] at h2
 rw [h2, greedy_goW ha h1]

end Go.Proofs.YtobkfbkhcghaeaaGreatDoor.PRv
