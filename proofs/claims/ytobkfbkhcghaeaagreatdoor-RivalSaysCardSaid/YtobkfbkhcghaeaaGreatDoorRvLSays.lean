/- RivalSays, the plain law (law24). -/
-- slim
import Derived.Test.YtobkfbkhcghaeaaGreatDoorRvQ
import Derived.Test.YtobkfbkhcghaeaaGreatDoorPRvx14
import Derived.Test.YtobkfbkhcghaeaaGreatDoorRvD
import Derived.Test.YtobkfbkhcghaeaaGreatDoorRvAwake
namespace Go.Proofs.YtobkfbkhcghaeaaGreatDoor.PRv
open Go.RowKit Go.Proofs.YtobkfbkhcghaeaaGreatDoor.PRv Go.Proofs.YtobkfbkhcghaeaaGreatDoorW.PrintWords Go.Proofs.YtobkfbkhcghaeaaGreatDoorW.PrintLast Go.Proofs.YtobkfbkhcghaeaaGreatDoorW.PrintMore 
set_option linter.unusedVariables false
set_option linter.unusedSimpArgs false

abbrev rootP (p q : Int) : Prop := 0 ≤ p ∧ p ≤ 1000000 ∧ 1 ≤ q ∧ q ≤ 1000000
theorem good1 (p q : Int) : tocsinref1_Good.f 0 0 p q = some (decide (rootP p q)) := by
 unfold tocsinref1_Good.f
 repeat' split
 all_goals (congr 1; first | (rw [decide_eq_decide]; omega) | (symm; rw [decide_eq_false_iff_not]; omega))
theorem four (v p q : Int) : 2 * v * q * (2 * v * p) = 4 * v * v * (p * q) := by grind
theorem bound1 (k : Nat) (w v p q : Int) (hw : 0 ≤ w ∧ w ≤ 1000000000) (hv : 0 ≤ v ∧ v ≤ 1000000000) (hr : rootP p q) : tocsinref1_Bound.f (k + 1) w v p q = some (decide (PSb.boundP w v p q)) := by
 have hb : PSb.boundP w v p q ↔ (w * q - v * q - v * p ≤ 0 ∨ (w * q - v * q - v * p) * (w * q - v * q - v * p) ≤ 4 * v * v * (p * q)) := by
  unfold PSb.boundP PSb.inB
  exact ⟨fun h => h.2.2.2.2, fun h => ⟨hw, hv, ⟨hr.1, hr.2.1⟩, ⟨hr.2.2.1, hr.2.2.2⟩, h⟩⟩
 have e : decide (PSb.boundP w v p q) = decide (w * q - v * q - v * p ≤ 0 ∨ (w * q - v * q - v * p) * (w * q - v * q - v * p) ≤ 4 * v * v * (p * q)) := decide_eq_decide.2 hb
 rw [e]
 clear e hb
 have b1 := PSb.mul_bd0 (x := w) (y := q) 1000000000 1000000 (by omega) (by omega) (by omega) (by omega)
 have b2 := PSb.mul_bd0 (x := v) (y := q) 1000000000 1000000 (by omega) (by omega) (by omega) (by omega)
 have b3 := PSb.mul_bd0 (x := v) (y := p) 1000000000 1000000 (by omega) (by omega) (by omega) (by omega)
 have b4 := PSb.mul_bd0 (x := 2 * v) (y := q) 2000000000 1000000 (by omega) (by omega) (by omega) (by omega)
 have b5 := PSb.mul_bd0 (x := 2 * v) (y := p) 2000000000 1000000 (by omega) (by omega) (by omega) (by omega)
 unfold tocsinref1_Bound.f
 rw [if_neg (by omega), if_neg (by omega), if_neg (by omega), if_neg (by omega), good1, Option.bind_some, decide_eq_true hr]
 unfold tocsinref1_Bound.j0
 dsimp only
 rw [if_neg (by decide), w64 (w * q) (by omega) (by omega), w64 (v * q) (by omega) (by omega), w64 (v * p) (by omega) (by omega), w64 (2 * v) (by omega) (by omega), w64 (2 * v * q) (by omega) (by omega), w64 (2 * v * p) (by omega) (by omega), w64 (w * q - v * q) (by omega) (by omega), w64 (w * q - v * q - v * p) (by omega) (by omega)]
 by_cases ha : w * q - v * q - v * p ≤ 0
 ·rw [if_pos ha, decide_eq_true (.inl ha)]
 ·rw [if_neg ha]
  unfold tocsinref1_CmpMul.f
  rw [if_pos (by omega), Option.bind_some, four v p q]
  generalize w * q - v * q - v * p = a at *
  generalize 4 * v * v * (p * q) = z
  congr 1
  rw [decide_eq_decide]
  generalize a * a = y
  split
  ·omega
  ·split <;> omega
theorem beats_in {p q v w : Int} (hv : 0 ≤ v ∧ v ≤ 1000000000) (hw : 0 ≤ w ∧ w ≤ 1000000000) : beatsB p q v w = (decide (rootP p q) && !decide (PSb.boundP w v p q)) := by
 unfold beatsB iB
 rw [decide_eq_true hv.1, decide_eq_true hv.2, decide_eq_true hw.1, decide_eq_true hw.2]
 simp only [Bool.true_and]
 by_cases hr : rootP p q
 ·obtain ⟨h1, h2, h3, h4⟩ := hr
  simp [h1, h2, h3, h4]
 ·rw [decide_eq_false hr, Bool.false_and]
  by_cases h1 : 0 ≤ p <;> by_cases h2 : p ≤ 1000000 <;> by_cases h3 : 1 ≤ q <;> by_cases h4 : q ≤ 1000000 <;> simp [h1, h2, h3, h4]
  exact absurd ⟨h1, h2, h3, h4⟩ hr
theorem beats_out {p q v w : Int} (h : ¬ ((0 ≤ v ∧ v ≤ 1000000000) ∧ (0 ≤ w ∧ w ≤ 1000000000))) : beatsB p q v w = false := by
 unfold beatsB iB
 by_cases h1 : 0 ≤ v <;> by_cases h2 : v ≤ 1000000000 <;> by_cases h3 : 0 ≤ w <;> by_cases h4 : w ≤ 1000000000 <;> simp [h1, h2, h3, h4]
 exact absurd ⟨⟨h1, h2⟩, h3, h4⟩ h
theorem says_j1 (k : Nat) (hk : 20000 ≤ k) (p q v w b f : Int) (g : List Int) (hg : g.length ≤ 10000) (h : Int) : tocsinlaw24_RivalSays.j1 (k + 1) p q v w b f b f g h g h false = some true := by
 obtain ⟨k, rfl⟩ : ∃ k', k = k' + 1 := ⟨k - 1, by omega⟩
 have hi := ints_is g (by omega) (k + 1) (by omega)
 unfold tocsinlaw24_RivalSays.j1 rival_Beats.f
 dsimp only
 rw [if_neg (by decide)]
 simp only [hi, good1, Option.bind_some, if_true]
 by_cases h1 : v ≥ 0
 ·by_cases h2 : w ≥ 0
  ·by_cases h3 : v ≤ 1000000000
   ·by_cases h4 : w ≤ 1000000000
    ·rw [if_pos h1, if_pos h2, if_pos h3, if_pos h4, beats_in ⟨h1, h3⟩ ⟨h2, h4⟩]
     by_cases hr : rootP p q
     ·rw [decide_eq_true hr, if_pos rfl, bound1 k w v p q ⟨h2, h4⟩ ⟨h1, h3⟩ hr, Option.bind_some]
      simp
     ·rw [decide_eq_false hr, if_neg (by decide)]
      rfl
    ·rw [if_pos h1, if_pos h2, if_pos h3, if_neg h4, beats_out (fun h => h4 h.2.2)]
     rfl
   ·rw [if_pos h1, if_pos h2, if_neg h3, beats_out (fun h => h3 h.1.2)]
    rfl
  ·rw [if_pos h1, if_neg h2, beats_out (fun h => h2 h.2.1)]
   rfl
 ·rw [if_neg h1, beats_out (fun h => h1 h.1.1)]
  rfl
theorem says_j0 {l : List Jb} (hl : okN l) (hn : l.length ≤ 8) (t : List Int) (ht : t.length ≤ 200) (p q v w : Int) (k : Nat) (hk : 700000 ≤ k) : tocsinlaw24_RivalSays.j0 (k + 1) l t p q v w false = some true := by
 obtain ⟨k, rfl⟩ : ∃ k', k = k' + 1 := ⟨k - 1, by omega⟩
 have hB : ∃ b f, rival_Best.f (k + 1) l = some (b, f) ∧ tocsinref8_Best.f (k + 1) (l.map toR) = some (b, f) := by
  cases ha : allJ l
  ·refine ⟨0, 1, ?_, ?_⟩
   ·unfold rival_Best.f
    rw [All_is l hl, Option.bind_some, ha, if_neg (by decide)]
   ·unfold tocsinref8_Best.f
    rw [AllR_is l hl (by omega) _ (by omega), Option.bind_some, ha, if_neg (by decide)]
  ·exact ⟨_, _, Best_is hl ha hn _ (by omega), BestR_is hl ha hn _ (by omega)⟩
 have hG : ∃ g h, g.length ≤ 10000 ∧ rival_Greedy.f l = some (g, h) ∧ tocsinref8_Greedy.f (k + 1) (l.map toR) = some (g, h) := by
  cases ha : allJ l
  ·refine ⟨[], 1, by simp, ?_, ?_⟩
   ·unfold rival_Greedy.f
    rw [if_pos ⟨by omega, List.all_eq_true.2 fun x hx => decide_eq_true (hl x hx)⟩, ha, if_neg (by decide)]
   ·unfold tocsinref8_Greedy.f
    rw [AllR_is l hl (by omega) _ (by omega), Option.bind_some, ha, if_neg (by decide)]
  ·exact ⟨_, _, greedyT_len ha, greedy_is hl hn ha, GreedyR_is hl ha hn _ (by omega)⟩
 obtain ⟨b, f, hB1, hB2⟩ := hB
 obtain ⟨g, h, hgl, hG1, hG2⟩ := hG
 unfold tocsinlaw24_RivalSays.j0
 dsimp only
 rw [if_neg (by decide), own_is l (by omega) _ (by omega), Option.bind_some, worth_is l hl hn t (by omega) _ (by omega), Option.bind_some, hB1, Option.bind_some, hB2, Option.bind_some, hG1, Option.bind_some, hG2, Option.bind_some, GoodR_is l hl (by omega) t _ (by omega) (by omega), Option.bind_some]
 cases goodT l t
 ·exact says_j1 k (by omega) p q v w b f g hgl h
 ·simp only [if_true]
  rw [if_neg (by simp), ValueR_is l hl (by omega) t (by omega) _ (by omega), Option.bind_some, if_pos rfl]
  exact says_j1 k (by omega) p q v w b f g hgl h
theorem says_law (l : List Jb) (t : List Int) (p q v w : Int) (k : Nat) (hk : 800000 ≤ k) : tocsinlaw24_RivalSays.f k l t p q v w = some true := by
 obtain ⟨k, rfl⟩ : ∃ k', k = k' + 1 := ⟨k - 1, by omega⟩
 have yes : tocsinlaw24_RivalSays.j0 (k + 1) l t p q v w true = some true := by unfold tocsinlaw24_RivalSays.j0; rfl
 unfold tocsinlaw24_RivalSays.f
 rw [awake_le (k + 1) (by omega), Option.bind_some, if_pos rfl]
 obtain ⟨b, h1, h2⟩ := heavy_is l (k + 1) (by omega)
 rw [h1, Option.bind_some, yes]
 cases b
 ·obtain ⟨hn, hl⟩ := h2 rfl
  rw [if_neg (by decide)]
  by_cases c : (t.length : Int) > 200
  ·rw [decide_eq_true c]
   exact yes
  ·rw [decide_eq_false c]
   exact says_j0 hl hn t (by omega) p q v w k (by omega)
 ·rfl

end Go.Proofs.YtobkfbkhcghaeaaGreatDoor.PRv
