/- What the laws of law24 share: heavy, Worth, no good trace earns more than the best. -/
-- slim
import Derived.Test.YtobkfbkhcghaeaaGreatDoorPRvx6
import Derived.Test.YtobkfbkhcghaeaaGreatDoorRvC
namespace Go.Proofs.YtobkfbkhcghaeaaGreatDoor.PRv
open Go.RowKit Go.Proofs.YtobkfbkhcghaeaaGreatDoor.PRv Go.Proofs.YtobkfbkhcghaeaaGreatDoorW.PrintWords Go.Proofs.YtobkfbkhcghaeaaGreatDoorW.PrintLast Go.Proofs.YtobkfbkhcghaeaaGreatDoorW.PrintMore 
set_option linter.unusedVariables false
set_option linter.unusedSimpArgs false

theorem heavy_l0 (l : List Jb) (hn : l.length ≤ 8) : ∀ d p k, p + d = l.length → d < k → (∀ i : Nat, i < p → (rJ l i).f0.size ≤ 100) →
  ∃ b, tocsinlaw24_heavy.l0 k l 60 p = some b ∧ (b = false → okN l) := by
 intro d
 induction d with
 | zero =>
  intro p k hp hk h
  obtain ⟨k, rfl⟩ : ∃ k', k = k' + 1 := ⟨k - 1, by omega⟩
  unfold tocsinlaw24_heavy.l0
  rw [if_neg (by omega)]
  refine ⟨false, rfl, fun _ x hx => ?_⟩
  obtain ⟨i, hi, rfl⟩ := List.mem_iff_getElem.1 hx
  have := h i (by omega)
  rw [← rdJ_get l i hi]
  exact this
 | succ d ih =>
  intro p k hp hk h
  obtain ⟨k, rfl⟩ : ∃ k', k = k' + 1 := ⟨k - 1, by omega⟩
  unfold tocsinlaw24_heavy.l0
  rw [if_pos (by omega), if_pos (by omega)]
  by_cases c : ((rd_T45 l (p : Int)).f0.size : Int) > 100
  ·rw [if_pos c]
   exact ⟨true, rfl, fun e => by cases e⟩
  ·rw [if_neg c, w64 ((p : Int) + 1) (by omega) (by omega), show (p : Int) + 1 = ((p + 1 : Nat) : Int) by omega]
   have h2 := ih (p + 1) k (by omega) (by omega) (fun i hi => by
    by_cases e : i = p
    ·subst e
     show (rd_T45 l (i : Int)).f0.size ≤ 100
     omega
    ·exact h i (by omega))
   split
   ·split
    ·exact ⟨true, rfl, fun e => by cases e⟩
    ·exact h2
   ·exact h2
theorem heavy_is (l : List Jb) (k : Nat) (hk : 100 < k) : ∃ b, tocsinlaw24_heavy.f k l 8 60 = some b ∧ (b = false → l.length ≤ 8 ∧ okN l) := by
 unfold tocsinlaw24_heavy.f
 by_cases c : (l.length : Int) > 8
 ·rw [if_pos c]
  exact ⟨true, rfl, fun e => by cases e⟩
 ·rw [if_neg c]
  obtain ⟨b, h1, h2⟩ := heavy_l0 l (by omega) l.length 0 k (by omega) (by omega) (fun i hi => by omega)
  exact ⟨b, h1, fun e => ⟨by omega, h2 e⟩⟩
theorem worth_is (l : List Jb) (hl : okN l) (hn : l.length ≤ 8) (t : List Int) (ht : t.length ≤ 10000) (k : Nat) (hk : 11000 < k) : rival_Worth.f k l t = some (if goodT l t = true then (valJ l t, 0) else (0, 1)) := by
 unfold rival_Worth.f
 rw [Good_is l hl t k (by omega) (by omega), Option.bind_some, Value_is l hl (by omega) t (by omega) k (by omega)]
 cases goodT l t
 ·rfl
 ·rfl
theorem val_best {l : List Jb} {t : List Int} (hg : goodT l t = true) : valJ l t ≤ bestJ l := by
 have hg2 := hg
 unfold goodT at hg2
 simp only [Bool.and_eq_true] at hg2
 have ha := hg2.1.1
 have hl : l.length ≤ 200 := by unfold allJ at ha; rw [Bool.and_eq_true] at ha; exact of_decide_eq_true ha.1
 rw [val_is ha]
 refine best_ge (fun p => metJ l t (p : Int)) (fun i _ hm => (met_cnt hm).2.2.1) (met_trace hg (inj_of (selQ_nodup _ _)) (Nat.le_trans (selQ_len _ _) hl) (fun i hi => ?_))
 obtain ⟨j, hj, rfl⟩ := List.mem_map.1 hi
 exact (List.mem_filter.1 hj).2
theorem greedyT_len {l : List Jb} (ha : allJ l = true) : (greedyT l).length ≤ 10000 := by
 have := greedy_goodT ha
 unfold goodT at this
 simp only [Bool.and_eq_true, decide_eq_true_eq] at this
 exact this.1.2
theorem greedy_is {l : List Jb} (hl : okN l) (hn : l.length ≤ 8) (ha : allJ l = true) : rival_Greedy.f l = some (greedyT l, 0) := by
 unfold rival_Greedy.f
 rw [if_pos ⟨by omega, List.all_eq_true.2 fun x hx => decide_eq_true (hl x hx)⟩, if_pos ha]

end Go.Proofs.YtobkfbkhcghaeaaGreatDoor.PRv
