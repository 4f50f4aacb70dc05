/- RivalBest, the plain law (law24). -/
import Derived.Test.YtobkfbkhcghaeaaDoorPRvx7
import Derived.Test.YtobkfbkhcghaeaaDoorRvLaw
import Derived.Test.YtobkfbkhcghaeaaDoorRvAwake
namespace Go.Proofs.YtobkfbkhcghaeaaDoor.PRv
open Go.RowKit Go.Proofs.YtobkfbkhcghaeaaDoor.PRv Go.Proofs.YtobkfbkhcghaeaaDoorW.PrintWords Go.Proofs.YtobkfbkhcghaeaaDoorW.PrintLast Go.Proofs.YtobkfbkhcghaeaaDoorW.PrintMore 
set_option linter.unusedVariables false
set_option linter.unusedSimpArgs false

theorem best_l0 {l : List Jb} (hl : okN l) (ha : allJ l = true) (hn : l.length ≤ 8) (t : List Int) (ht : t.length ≤ 200) : ∀ d i k, i + d = l.length → d + 15000 < k →
    tocsinlaw24_RivalBest.l0 k l t (bestJ l) (valJ l (greedyT l)) i = some true := by
  intro d
  induction d with
  | zero =>
    intro i k hi hk
    obtain ⟨k, rfl⟩ : ∃ k', k = k' + 1 := ⟨k - 1, by omega⟩
    unfold tocsinlaw24_RivalBest.l0
    rw [if_neg (by omega), worth_is l hl hn t (by omega) k (by omega), Option.bind_some]
    cases hg : goodT l t
    · rfl
    · rw [if_pos rfl, if_pos rfl, if_pos (val_best hg), Value_is l hl (by omega) t (by omega) k (by omega), Option.bind_some]
      simp
  | succ d ih =>
    intro i k hi hk
    obtain ⟨k, rfl⟩ : ∃ k', k = k' + 1 := ⟨k - 1, by omega⟩
    have hb := goodJ_b (all_rJ ha i (by omega))
    have hih := ih (i + 1) k (by omega) (by omega)
    unfold tocsinlaw24_RivalBest.l0
    rw [if_pos (by omega), if_pos (by omega), w64 ((i : Int) + 1) (by omega) (by omega), show (i : Int) + 1 = ((i + 1 : Nat) : Int) by omega, hih]
    unfold job_Runs.f
    rw [Option.bind_some]
    split
    · rename_i c1
      split
      · rename_i c2
        rw [w64 _ (by show _ ≤ (rJ l i).f2 - (rJ l i).f1; omega) (by show (rJ l i).f2 - (rJ l i).f1 ≤ _; omega)] at c2
        have := greedy_best ha i (by omega) (of_decide_eq_true c1) c2
        rw [if_neg (by show ¬ (rJ l i).f5 > _; omega)]
      · rfl
    · rfl
theorem best_law (l : List Jb) (t : List Int) (k : Nat) (hk : 16000 ≤ k) : tocsinlaw24_RivalBest.f k l t = some true := by
  obtain ⟨k, rfl⟩ : ∃ k', k = k' + 1 := ⟨k - 1, by omega⟩
  have ht : tocsinlaw24_RivalBest.j0 (k + 1) l t true = some true := by unfold tocsinlaw24_RivalBest.j0; rfl
  unfold tocsinlaw24_RivalBest.f
  rw [awake_le (k + 1) (by omega), Option.bind_some, if_pos rfl]
  obtain ⟨b, h1, h2⟩ := heavy_is l (k + 1) (by omega)
  rw [h1, Option.bind_some, ht]
  cases b
  · obtain ⟨hn, hl⟩ := h2 rfl
    rw [if_neg (by simp)]
    by_cases c : (t.length : Int) > 200
    · rw [if_pos c]
    · rw [if_neg c, All_is l hl, Option.bind_some]
      cases ha : allJ l
      · exact ht
      · rw [Bool.not_true]
        unfold tocsinlaw24_RivalBest.j0
        dsimp only
        rw [if_neg (by simp), Best_is hl ha hn k (by omega), Option.bind_some, greedy_is hl hn ha, Option.bind_some, worth_is l hl hn _ (greedyT_len ha) k (by omega), Option.bind_some, if_pos (greedy_goodT ha), if_pos rfl, if_pos rfl, if_pos rfl]
        obtain ⟨k, rfl⟩ : ∃ k', k = k' + 1 := ⟨k - 1, by omega⟩
        unfold tocsinlaw24_RivalBest.j1
        dsimp only
        have := val_best (greedy_goodT ha)
        rw [if_neg (by simp only [decide_eq_true_eq]; omega)]
        exact best_l0 hl ha hn t (by omega) l.length 0 k (by omega) (by omega)
  · rfl

end Go.Proofs.YtobkfbkhcghaeaaDoor.PRv
