/- What the laws of skip share, in plain numbers. -/
import Derived.Test.YtkjboaepeecinaaPSkx4
import Derived.Test.YtkjboaepeecinaaSkRun
namespace Go.Proofs.Ytkjboaepeecinaa.Pure
open Go.RowKit Go.Proofs.Ytkjboaepeecinaa.PSk Go.Proofs.YtkjboaepeecinaaW.PrintWords Go.Proofs.YtkjboaepeecinaaW.PrintLast Go.Proofs.YtkjboaepeecinaaW.PrintMore Go.Proofs.Ytkjboaepeecinaa.PSk
set_option linter.unusedVariables false
set_option linter.unusedSimpArgs false

theorem skip_ex : skip_Run.f [(⟨2, 2, 2⟩ : S35)] false 4 = some ([0, 0, -1, -1], [(⟨0, 0, true, true⟩ : S33)], 0) := by kernel_rfl
theorem ints_same (a : List Int) (ha : a.length ≤ 1000000) (k : Nat) (hk : a.length < k) : tocsinlaw21_ints.f k a a = some true := by
  have go : ∀ (d k i : Nat), i ≤ a.length → a.length - i = d → d < k → tocsinlaw21_ints.l0 k a a (i : Int) = some true := by
    intro d
    induction d with
    | zero =>
      intro k i hi hd hk
      obtain ⟨k, rfl⟩ : ∃ m, k = m + 1 := ⟨k - 1, by omega⟩
      simp only [tocsinlaw21_ints.l0]
      rw [if_neg (by omega)]
    | succ d ih =>
      intro k i hi hd hk
      obtain ⟨k, rfl⟩ : ∃ m, k = m + 1 := ⟨k - 1, by omega⟩
      simp only [tocsinlaw21_ints.l0]
      rw [if_pos (by omega), if_pos (by omega), if_pos (by omega)]
      simp only [if_true]
      rw [w64 (x := (i : Int) + 1) (by omega) (by omega)]
      exact ih k (i + 1) (by omega) (by omega) (by omega)
  unfold tocsinlaw21_ints.f
  rw [if_pos rfl]
  exact go a.length k 0 (by omega) (by omega) hk
theorem awake_is (k : Nat) (hk : 10 ≤ k) : tocsinlaw21_awake.f k = some true := by
  unfold tocsinlaw21_awake.f
  rw [skip_ex]
  simp only [Option.bind_some, if_true]
  rw [ints_same _ (by decide) k (by simp; omega)]
  simp [rd_T33]
def lightS (l : List S35) (t : Int) : Bool := decide (l.length ≤ 6 ∧ t ≤ 300 ∧ ((frameS (l.map qT)).2 = 0 → (frameS (l.map qT)).1 ≤ 3000))
theorem light_is (k : Nat) (hk : 9223372036854775900 ≤ k) (l : List S35) (t : Int) : tocsinlaw21_light.f k l t = some (lightS l t) := by
  unfold tocsinlaw21_light.f lightS
  rw [frame_is k l hk]
  simp only [Option.bind_some]
  repeat' split
  all_goals (congr 1; first | (rw [decide_eq_decide]; constructor <;> intro h <;> first | omega | (refine ⟨by omega, by omega, fun _ => h⟩) | exact h.2.2 (by assumption)) | (symm; rw [decide_eq_true_iff]; exact ⟨by omega, by omega, fun h => absurd h (by assumption)⟩) | (symm; rw [decide_eq_false_iff_not]; omega))
theorem lightS_bd {l : List S35} {t : Int} (h : lightS l t = true) : l.length ≤ 6 ∧ t ≤ 300 := by
  have := of_decide_eq_true h
  exact ⟨this.1, this.2.1⟩
/-- What is laid before: the tasks can be held. -/
def heldS (l : List S35) : Prop := (holdsS (l.map qT)).2 = 0 ∧ (holdsS (l.map qT)).1 = true
theorem run_err (l : List S35) (b : Bool) (t : Int) (h0 : 0 ≤ t) (h1 : t ≤ 10000) (h : ¬ heldS l) : ∃ e, e ≠ 0 ∧ ∀ b t, 0 ≤ t → t ≤ 10000 → skip_Run.f l b t = some ([], [], e) := by
  by_cases h2 : (holdsS (l.map qT)).2 ≠ 0
  · refine ⟨_, h2, fun b t h0 h1 => ?_⟩
    unfold skip_Run.f
    rw [if_neg (by omega), if_pos h2]
  · refine ⟨9, by decide, fun b t h0 h1 => ?_⟩
    unfold skip_Run.f
    have h3 : (holdsS (l.map qT)).1 = false := by
      cases hq : (holdsS (l.map qT)).1 with
      | false => rfl
      | true => exact absurd ⟨by omega, hq⟩ h
    rw [if_neg (by omega), if_neg h2, if_pos h3]
theorem run_ok (l : List S35) (b : Bool) (t : Int) (h0 : 0 ≤ t) (h1 : t ≤ 10000) (h : heldS l) : skip_Run.f l b t = some ((runTo b (l.map iniT) t.toNat).T, (runTo b (l.map iniT) t.toNat).M, 0) := by
  unfold skip_Run.f
  rw [if_neg (by omega), if_neg (by rw [h.1]; simp), if_neg (by rw [h.2]; simp)]
theorem run_neg (l : List S35) (b : Bool) (t : Int) (h0 : t < 0) : skip_Run.f l b t = some ([], [], 1) := by
  unfold skip_Run.f
  rw [if_pos (.inl h0)]
theorem held_ok {l : List S35} (h : heldS l) : l.length ≤ 20 ∧ (∀ t ∈ l, goodTB t.f0 t.f1 t.f2 = true) ∧ ∀ x ∈ l.map iniT, okB 0 x := by
  have hg := holds_good h.1
  have hg2 : ∀ t ∈ l, goodTB t.f0 t.f1 t.f2 = true := fun t ht => hg.2 (qT t) (List.mem_map_of_mem ht)
  refine ⟨by simpa using hg.1, hg2, fun x hx => ?_⟩
  obtain ⟨t, ht, rfl⟩ := List.mem_map.1 hx
  have := goodTB_iff (hg2 t ht)
  exact ⟨⟨by show 1 ≤ t.f0; omega, by show t.f0 ≤ 10000; omega⟩, ⟨by show 1 ≤ t.f1; omega, by show t.f1 ≤ 1000; omega⟩, ⟨by show 0 ≤ t.f2; omega, by show t.f2 ≤ 1000; omega⟩, ⟨by show (-1 : Int) ≤ -1; omega, by show (-1 : Int) ≤ 0 - 1; omega⟩, ⟨by show (0 : Int) ≤ 0; omega, by show (0 : Int) ≤ 0 + 10000; omega⟩, ⟨by show (0 : Int) ≤ 0; omega, by show (0 : Int) ≤ 1000; omega⟩, by show -1 - 0 ≤ t.f2 - 1; omega, by show t.f2 - 1 ≤ 1000; omega⟩
theorem run_len {l : List S35} (h : heldS l) (b : Bool) (t : Int) (h0 : 0 ≤ t) (h1 : t ≤ 10000) : (runTo b (l.map iniT) t.toNat).M.length ≤ 200000 ∧ ((runTo b (l.map iniT) t.toNat).T.length : Int) = t := by
  have h2 := (run_bd b (l.map iniT) (held_ok h).2.2 t.toNat).2
  have h3 := runTo_T b (l.map iniT) t.toNat
  have h4 := (held_ok h).1
  have := Nat.mul_le_mul (show t.toNat ≤ 10000 by omega) (show (l.map iniT).length ≤ 20 by simpa using h4)
  exact ⟨by omega, by omega⟩

end Go.Proofs.Ytkjboaepeecinaa.Pure
