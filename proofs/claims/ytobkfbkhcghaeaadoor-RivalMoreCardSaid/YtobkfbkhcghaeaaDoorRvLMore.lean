/- RivalMore, the plain law (law24). -/
import Derived.Test.YtobkfbkhcghaeaaDoorPRvx6
import Derived.Test.YtobkfbkhcghaeaaDoorPRvMore
import Derived.Test.YtobkfbkhcghaeaaDoorRvLaw
import Derived.Test.YtobkfbkhcghaeaaDoorRvAwake
namespace Go.Proofs.YtobkfbkhcghaeaaDoor.PRv
open Go.RowKit Go.Proofs.YtobkfbkhcghaeaaDoor.PRv Go.Proofs.YtobkfbkhcghaeaaDoorW.PrintWords Go.Proofs.YtobkfbkhcghaeaaDoorW.PrintLast Go.Proofs.YtobkfbkhcghaeaaDoorW.PrintMore 
set_option linter.unusedVariables false
set_option linter.unusedSimpArgs false

theorem goodL_pre (l : List Jb) : ∀ (a b ran : List Int) (k : Nat), goodL l ran (a ++ b) k = true → goodL l ran a k = true
  | [], _, _, _, _ => rfl
  | i :: a, b, ran, k, h => by
    rw [List.cons_append] at h
    unfold goodL at h ⊢
    split
    · rename_i c
      rw [if_pos c] at h
      exact goodL_pre l a b ran (k + 1) h
    · rename_i c
      rw [if_neg c, Bool.and_eq_true] at h
      rw [Bool.and_eq_true]
      exact ⟨h.1, goodL_pre l a b _ (k + 1) h.2⟩
theorem goodT_take {l : List Jb} {t : List Int} (h : goodT l t = true) (m : Nat) : goodT l (t.take m) = true := by
  unfold goodT at h ⊢
  simp only [Bool.and_eq_true, decide_eq_true_iff] at h ⊢
  refine ⟨⟨h.1.1, by rw [List.length_take]; omega⟩, goodL_pre l (t.take m) (t.drop m) _ 0 (by rw [List.take_append_drop]; exact h.2)⟩
theorem doneL_pre (i : Int) : ∀ (a b : List Int) (left : Int) (k r : Nat), doneL i left a k = some r → doneL i left (a ++ b) k = some r
  | [], _, _, _, _, h => by cases h
  | x :: a, b, left, k, r, h => by
    rw [List.cons_append]
    unfold doneL at h ⊢
    split
    · rename_i c
      rw [if_pos c] at h
      split
      · rename_i c2
        rw [if_pos c2] at h
        exact h
      · rename_i c2
        rw [if_neg c2] at h
        exact doneL_pre i a b _ _ _ h
    · rename_i c
      rw [if_neg c] at h
      split
      · rename_i c2
        rw [if_pos c2] at h
        exact h
      · rename_i c2
        rw [if_neg c2] at h
        exact doneL_pre i a b _ _ _ h
theorem met_take {l : List Jb} {t : List Int} {m : Nat} {i : Int} (h : metJ l (t.take m) i = true) : metJ l t i = true := by
  unfold metJ at h ⊢
  cases hd : doneJ l (t.take m) i with
  | none => rw [hd] at h; cases h
  | some a =>
    rw [hd] at h
    have e : doneJ l t i = some a := by
      unfold doneJ at hd ⊢
      split at hd
      · rename_i c
        rw [if_pos c]
        have := doneL_pre i (t.take m) (t.drop m) _ 0 a hd
        rw [List.take_append_drop] at this
        exact this
      · cases hd
    rw [e]
    exact h
theorem valL_le {l : List Jb} (ha : allJ l = true) (hn : l.length ≤ 200) (m m' : Int → Bool) (hm : ∀ i, m i = true → m' i = true) : ∀ (d i : Nat) (a a' : Int), i + d = l.length → 0 ≤ a → a ≤ a' → a' ≤ i * 1000000 → valL l m d i a ≤ valL l m' d i a' := by
  intro d
  induction d with
  | zero => intro i a a' _ _ h _; exact h
  | succ d ih =>
    intro i a a' hi h0 h1 h2
    unfold valL
    have hb := goodJ_b (allJ_at ha i (by omega) (by omega))
    generalize (rd_T35 l i).f5 = v at *
    have hc : (((i + 1 : Nat) : Int)) * 1000000 = i * 1000000 + 1000000 := by omega
    cases hx : m i
    · rw [if_neg (by simp)]
      split
      · rw [w64 _ (by omega) (by omega)]
        exact ih (i + 1) _ _ (by omega) (by omega) (by omega) (by omega)
      · exact ih (i + 1) _ _ (by omega) (by omega) (by omega) (by omega)
    · rw [if_pos rfl, if_pos (hm _ hx), w64 _ (by omega) (by omega), w64 _ (by omega) (by omega)]
      exact ih (i + 1) _ _ (by omega) (by omega) (by omega) (by omega)
theorem val_take {l : List Jb} {t : List Int} (hg : goodT l t = true) (m : Nat) : valJ l (t.take m) ≤ valJ l t := by
  unfold goodT at hg
  rw [Bool.and_eq_true, Bool.and_eq_true] at hg
  have ha := hg.1.1
  have hn : l.length ≤ 200 := by
    unfold allJ at ha
    rw [Bool.and_eq_true, decide_eq_true_iff] at ha
    exact ha.1
  exact valL_le ha hn _ _ (fun i => met_take) l.length 0 0 0 (by omega) (by omega) (by omega) (by omega)
theorem rd_take (l : List Jb) (m i : Nat) (hi : i < m) (hm : m ≤ l.length) : rJ (l.take m) i = rJ l i := by
  show rd_T35 _ (i : Int) = rd_T35 _ (i : Int)
  rw [rdJ_get _ _ (by rw [List.length_take]; omega), rdJ_get _ _ (by omega), List.getElem_take]
theorem all_take {l : List Jb} (ha : allJ l = true) (m : Nat) : allJ (l.take m) = true := by
  unfold allJ at ha ⊢
  rw [Bool.and_eq_true, List.all_eq_true] at ha ⊢
  refine ⟨decide_eq_true (by have := of_decide_eq_true ha.1; rw [List.length_take]; omega), fun x hx => ha.2 x (List.mem_of_mem_take hx)⟩
theorem best_take {l : List Jb} (ha : allJ l = true) (m : Nat) (hm : m ≤ l.length) : bestJ (l.take m) ≤ bestJ l := by
  have hlen : (l.take m).length = m := by rw [List.length_take]; omega
  rcases best_some (l.take m) (2 ^ (l.take m).length) with h | ⟨q, h1, h2, h3⟩
  · show bestN _ _ ≤ _
    rw [h]
    have := bestN_mono l 0 (2 ^ l.length)
    rw [Nat.zero_add] at this
    exact this
  · show bestN _ _ ≤ _
    rw [h1]
    rw [hlen] at h2 h3 ⊢
    have e : ∀ d, valQ l (m + d) (fun i => decide (i < m) && q i) = valQ (l.take m) m q := by
      intro d
      induction d with
      | zero =>
        refine sumN_congr _ _ _ (fun i hi => ?_)
        rw [rd_take l m i hi hm]
        have hd : decide (i < m) = true := decide_eq_true hi
        simp only [hd, Bool.true_and]
      | succ d ih =>
        have e2 : valQ l (m + (d + 1)) (fun i => decide (i < m) && q i) = valQ l (m + d) (fun i => decide (i < m) && q i) + if (decide (m + d < m) && q (m + d)) = true then (rJ l (m + d)).f5 else 0 := rfl
        rw [e2, ih, decide_eq_false (by omega), Bool.false_and, if_neg (by simp)]
        omega
    have e3 : ∀ d, selQ (m + d) (fun i => decide (i < m) && q i) = selQ m q := by
      intro d
      induction d with
      | zero => exact selQ_congr _ _ _ (fun i hi => by rw [decide_eq_true (show i < m from hi), Bool.true_and])
      | succ d ih =>
        rw [show m + (d + 1) = (m + d) + 1 by omega, selQ_step, ih, decide_eq_false (by omega), Bool.false_and, if_neg (by simp)]
    have hb := best_ge (l := l) (fun i => decide (i < m) && q i) (fun i hi hq => by
      rw [Bool.and_eq_true, decide_eq_true_eq] at hq
      have := h2 i hq.1 hq.2
      rwa [rd_take l m i hq.1 hm] at this) (by
      have := e3 (l.length - m)
      rw [show m + (l.length - m) = l.length by omega] at this
      rw [this]
      unfold metS at h3 ⊢
      rw [← h3]
      congr 1
      refine List.map_congr_left (fun i hi => ?_)
      have hb := selQ_in m q i hi
      obtain ⟨j, rfl⟩ : ∃ j : Nat, i = (j : Int) := ⟨i.toNat, by omega⟩
      show modJ (rJ l j) = modJ (rJ (l.take m) j)
      rw [rd_take l m j (by omega) hm])
    have := e (l.length - m)
    rw [show m + (l.length - m) = l.length by omega] at this
    rw [← this]
    exact hb
theorem more_law (l : List Jb) (t : List Int) (n : Int) (k : Nat) (hk : 16000 ≤ k) : tocsinlaw24_RivalMore.f k l t n = some true := by
  obtain ⟨k, rfl⟩ : ∃ k', k = k' + 1 := ⟨k - 1, by omega⟩
  have ht : tocsinlaw24_RivalMore.j0 (k + 1) l t n true = some true := by unfold tocsinlaw24_RivalMore.j0; rfl
  unfold tocsinlaw24_RivalMore.f
  rw [awake_le (k + 1) (by omega), Option.bind_some, if_pos rfl]
  obtain ⟨b, h1, h2⟩ := heavy_is l (k + 1) (by omega)
  rw [h1, Option.bind_some, ht]
  cases b
  · obtain ⟨hn, hl⟩ := h2 rfl
    rw [if_neg (by simp)]
    by_cases c0 : (l.length : Int) < 1
    · rw [if_pos c0]
    rw [if_neg c0]
    by_cases c : (t.length : Int) > 100
    · rw [if_pos c]
    rw [if_neg c, All_is l hl, Option.bind_some]
    cases ha : allJ l
    · rw [if_neg (by simp)]
    rw [if_pos rfl]
    by_cases c1 : n < 0
    · rw [if_pos c1]
    rw [if_neg c1]
    by_cases c2 : n > (t.length : Int)
    · rw [decide_eq_true c2]
      exact ht
    rw [decide_eq_false c2]
    unfold tocsinlaw24_RivalMore.j0
    dsimp only
    have hlt : okN (l.take (l.length - 1)) := fun x hx => hl x (List.mem_of_mem_take hx)
    rw [if_neg (by simp), Best_is hl ha hn k (by omega), Option.bind_some, w64 ((l.length : Int) - 1) (by omega) (by omega), if_pos (by omega), if_pos (by omega), show ((l.length : Int) - 1).toNat = l.length - 1 by omega, Best_is hlt (all_take ha _) (by rw [List.length_take]; omega) k (by omega), Option.bind_some, if_pos rfl, if_pos rfl]
    obtain ⟨k, rfl⟩ : ∃ k', k = k' + 1 := ⟨k - 1, by omega⟩
    unfold tocsinlaw24_RivalMore.j1
    dsimp only
    have := best_take ha (l.length - 1) (by omega)
    rw [if_neg (by simp only [decide_eq_true_eq]; omega), worth_is l hl hn t (by omega) k (by omega), Option.bind_some, if_pos (by omega), if_pos (by omega), worth_is l hl hn (t.take n.toNat) (by rw [List.length_take]; omega) k (by omega), Option.bind_some]
    cases hg : goodT l t
    · rfl
    · rw [if_pos rfl, if_pos (goodT_take hg _), if_pos rfl, if_pos rfl, decide_eq_true (val_take hg _)]
  · rfl

end Go.Proofs.YtobkfbkhcghaeaaDoor.PRv
