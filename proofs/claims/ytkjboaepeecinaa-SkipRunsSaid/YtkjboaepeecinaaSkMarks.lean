/- A task's marks: one by one; blue ones that are missed lie apart. -/
import Derived.Test.YtkjboaepeecinaaPSkx0
import Derived.Test.YtkjboaepeecinaaSkWorst
namespace Go.Proofs.Ytkjboaepeecinaa.PSk
open Go.RowKit Go.Proofs.Ytkjboaepeecinaa.PSk Go.Proofs.YtkjboaepeecinaaW.PrintWords Go.Proofs.YtkjboaepeecinaaW.PrintLast Go.Proofs.YtkjboaepeecinaaW.PrintMore 
set_option linter.unusedVariables false
set_option linter.unusedSimpArgs false

theorem step_ok {blue : Bool} {k : Int} {S : List St} (h : ∀ x ∈ S, okS blue k x) : ∀ x ∈ decS (S.map (tq blue k)) (atS blue (S.map (tq blue k))), okS blue (k + 1) x := by
  have ok1 : ∀ x ∈ S.map (tq blue k), okS blue (k + 1) x := by
    intro x hx
    obtain ⟨y, hy, rfl⟩ := List.mem_map.1 hx
    exact tq_ok (h y hy)
  generalize S.map (tq blue k) = S1 at *
  unfold decS
  rcases atS_spec blue S1 with ⟨e, _⟩ | ⟨b, x, e, hx, _, hl, _⟩ | ⟨b, x, e, hx, _, hl, _⟩
  · rw [e, if_pos rfl]; exact ok1
  all_goals
    have hxd : S1.getD b default = x := by rw [List.getD_eq_getElem?_getD, hx]; rfl
    rw [e, if_neg (by omega), show ((b : Int)).toNat = b by omega, hxd]
    intro y hy
    rcases List.mem_or_eq_of_mem_set hy with hy | rfl
    · exact ok1 y hy
    · exact decSt_ok (ok1 x (List.mem_of_getElem? hx)) hl
theorem run_okS (blue : Bool) (S0 : List St) (h0 : ∀ x ∈ S0, okS blue 0 x) : ∀ k : Nat, ∀ x ∈ (runTo blue S0 k).S, okS blue k x
  | 0 => h0
  | k + 1 => by
    have := step_ok (run_okS blue S0 h0 k)
    rw [runTo]
    simp only [stepS]
    intro x hx
    push_cast
    exact this x hx
def ofT (i : Nat) (M : List S33) : List S33 := M.filter fun m => decide (m.f0 = (i : Int))
theorem ofT_app (i : Nat) (M N : List S33) : ofT i (M ++ N) = ofT i M ++ ofT i N := List.filter_append ..
theorem ofT_mq (k : Int) (a b : Nat) (x : St) : ofT a (mq k b x) = if a = b then mq k b x else [] := by
  unfold mq markS ofT
  split
  · split
    · by_cases h : a = b
      · subst h; simp
      · rw [if_neg h]
        simp
        omega
    · simp
  · simp
theorem ofT_less (k : Int) (i : Nat) : ∀ (S : List St) (j : Nat), i < j → ofT i (mkl k j S) = []
  | [], _, _ => rfl
  | x :: l, j, h => by
    simp only [mkl]
    rw [ofT_app, ofT_mq, if_neg (by omega), ofT_less k i l (j + 1) (by omega)]
    rfl
theorem ofT_mkl (k : Int) : ∀ (S : List St) (i j : Nat) (x : St), S[i]? = some x → ofT (j + i) (mkl k j S) = mq k (j + i) x
  | [], _, _, _, h => by simp at h
  | y :: l, 0, j, x, h => by
    have : y = x := by simpa using h
    subst this
    simp only [mkl, Nat.add_zero]
    rw [ofT_app, ofT_mq, if_pos rfl, ofT_less k j l (j + 1) (by omega), List.append_nil]
  | y :: l, i + 1, j, x, h => by
    simp only [mkl]
    rw [ofT_app, ofT_mq, if_neg (by omega)]
    have := ofT_mkl k l i (j + 1) x (by simpa using h)
    rw [show j + (i + 1) = j + 1 + i by omega, this]
    rfl
/-- A mark of a blue job that was missed. -/
def bm (m : S33) : Prop := m.f2 = false ∧ m.f3 = false
structure MInv (blue : Bool) (x : St) (ms : List S33) : Prop where
  none : x.n = -1 → ms = []
  len : 0 ≤ x.n → (ms.length : Int) = x.n
  num : ∀ (j : Nat) (m : S33), ms[j]? = some m → m.f1 = j
  red : x.s = 0 → ∀ m ∈ ms, m.f2 = true
  apart : x.s ≠ 0 → ∀ (j j' : Nat) (m m' : S33), j < j' → ms[j]? = some m → ms[j']? = some m' → bm m → bm m' → x.s ≤ (j' : Int) - j
  lastB : x.s ≠ 0 → blue = true → ∀ (j : Nat) (m : S33), ms[j]? = some m → bm m → x.n - j < x.s → x.red = true ∧ x.reds = x.s - 1 - (x.n - j)
  lastR : x.s ≠ 0 → blue = false → ∀ (j : Nat) (m : S33), ms[j]? = some m → bm m → ((j : Int) + 1) % x.s = 0
theorem snoc_get {ms : List S33} {m0 : S33} {j : Nat} {m : S33} (h : (ms ++ [m0])[j]? = some m) : (j < ms.length ∧ ms[j]? = some m) ∨ (j = ms.length ∧ m = m0) := by
  by_cases hj : j < ms.length
  · rw [List.getElem?_append_left hj] at h
    exact .inl ⟨hj, h⟩
  · rw [List.getElem?_append_right (by omega)] at h
    obtain ⟨h1, h2⟩ := List.getElem?_eq_some_iff.1 h
    have : j - ms.length = 0 := by simp at h1; omega
    simp only [this, List.getElem_cons_zero] at h2
    exact .inr ⟨by omega, h2.symm⟩
theorem mod_apart {s a b : Int} (hs : 2 ≤ s) (ha : a % s = 0) (hb : b % s = 0) (h : a < b) : s ≤ b - a := by
  obtain ⟨x, rfl⟩ := Int.dvd_of_emod_eq_zero ha
  obtain ⟨y, rfl⟩ := Int.dvd_of_emod_eq_zero hb
  have : x < y := Int.lt_of_mul_lt_mul_left h (by omega)
  have h2 : s * (x + 1) ≤ s * y := Int.mul_le_mul_of_nonneg_left (by omega) (by omega)
  rw [Int.mul_add, Int.mul_one] at h2
  omega
theorem minv_turn {blue : Bool} {k : Int} {x : St} {ms : List S33} (i : Nat) (h : okS blue k x) (hm : MInv blue x ms) : MInv blue (turnS blue x k) (ms ++ markS i x) := by
  obtain ⟨h1, h2, h3, h4, h5, h6, h7, h8, h9, h10, h11, h12, h13⟩ := h
  have en : (turnS blue x k).n = x.n + 1 := rfl
  have es : (turnS blue x k).s = x.s := rfl
  by_cases hn : x.n = -1
  · have e0 : ms ++ markS i x = [] := by rw [hm.none hn]; unfold markS; rw [if_neg (by omega)]; rfl
    rw [e0]
    exact ⟨fun _ => rfl, fun _ => by rw [en, hn]; rfl, fun j m hj => by simp at hj, fun _ m hm => (by cases hm), fun _ j j' m m' _ hj => by simp at hj, fun _ _ j m hj => by simp at hj, fun _ _ j m hj => by simp at hj⟩
  · have hn0 : 0 ≤ x.n := by omega
    have e0 : markS i x = [⟨i, x.n, x.red, decide (x.left = 0)⟩] := if_pos hn0
    rw [e0]
    have hl := hm.len hn0
    refine ⟨fun h => by rw [en] at h; omega, fun _ => by rw [en, List.length_append, ← hl]; simp, fun j m hj => ?_, fun hs m hmm => ?_, fun hs j j' m m' hjj hj hj' b b' => ?_, fun hs hb j m hj b hd => ?_, fun hs hb j m hj b => ?_⟩
    · rcases snoc_get hj with ⟨_, hj⟩ | ⟨hj, rfl⟩
      · exact hm.num j m hj
      · show x.n = j; omega
    · rw [es] at hs
      rcases List.mem_append.1 hmm with hmm | hmm
      · exact hm.red hs m hmm
      · rw [List.mem_singleton] at hmm
        subst hmm
        rcases h10 hs with h | h
        · exact absurd h hn
        · exact h
    · rw [es] at hs ⊢
      rcases snoc_get hj' with ⟨hl', hj'⟩ | ⟨hl', rfl⟩
      · rcases snoc_get hj with ⟨_, hj⟩ | ⟨hl2, _⟩
        · exact hm.apart hs j j' m m' hjj hj hj' b b'
        · omega
      · rcases snoc_get hj with ⟨hl2, hj⟩ | ⟨hl2, _⟩
        · cases blue with
          | true =>
            have := hm.lastB hs rfl j m hj b
            have hr : x.red = false := b'.1
            by_cases hq : x.n - j < x.s
            · have := (this hq).1
              rw [hr] at this
              cases this
            · omega
          | false =>
            have e1 := hm.lastR hs rfl j m hj b
            have hr : x.red = false := b'.1
            have e2 := h13 hs rfl hn
            rw [hr] at e2
            have e3 : (x.n + 1) % x.s = 0 := by
              have := of_decide_eq_false e2.symm
              omega
            have := mod_apart (by omega) e1 e3 (by omega)
            omega
        · omega
    · rw [es] at hs ⊢
      rw [en] at hd ⊢
      rw [es] at hd
      subst hb
      have hbb := h12 hs rfl
      rcases snoc_get hj with ⟨hl2, hj⟩ | ⟨hl2, rfl⟩
      · obtain ⟨r1, r2⟩ := hm.lastB hs rfl j m hj b (by omega)
        have w1 : wasS x = false := by simp [wasS, r1]
        have ec : colR true x.s (x.n + 1) x.reds (metS x) (wasS x) = (true, x.reds - 1) := by
          unfold colR
          rw [if_neg hs, if_neg (by decide), w1]
          simp only [Bool.false_eq_true, false_and, if_false]
          rw [if_neg (by omega)]
        refine ⟨?_, ?_⟩
        · show (colR true x.s (x.n + 1) x.reds (metS x) (wasS x)).1 = true
          rw [ec]
        · show (colR true x.s (x.n + 1) x.reds (metS x) (wasS x)).2 = _
          rw [ec]
          show x.reds - 1 = _
          omega
      · have r1 : x.red = false := b.1
        have r2 : decide (x.left = 0) = false := b.2
        have w1 : wasS x = true := by simp [wasS, r1]; omega
        have w2 : metS x = false := by simp only [metS, r2, Bool.and_false]
        have ec : colR true x.s (x.n + 1) x.reds (metS x) (wasS x) = (true, x.s - 1 - 1) := by
          unfold colR
          rw [if_neg hs, if_neg (by decide), w1, w2]
          simp only [and_self, if_true]
          rw [if_neg (by omega)]
        refine ⟨?_, ?_⟩
        · show (colR true x.s (x.n + 1) x.reds (metS x) (wasS x)).1 = true
          rw [ec]
        · show (colR true x.s (x.n + 1) x.reds (metS x) (wasS x)).2 = _
          rw [ec]
          show x.s - 1 - 1 = _
          omega
    · rw [es] at hs ⊢
      rcases snoc_get hj with ⟨hl2, hj⟩ | ⟨hl2, rfl⟩
      · exact hm.lastR hs hb j m hj b
      · have hr : x.red = false := b.1
        have e2 := h13 hs hb hn
        rw [hr] at e2
        have := of_decide_eq_false e2.symm
        rw [show (j : Int) = x.n by omega]
        omega
theorem minv_dec {blue : Bool} {x : St} {ms : List S33} (hm : MInv blue x ms) : MInv blue (decSt x) ms := ⟨hm.none, hm.len, hm.num, hm.red, hm.apart, hm.lastB, hm.lastR⟩
theorem run_minv (blue : Bool) (S0 : List St) (h0 : ∀ x ∈ S0, okS blue 0 x) (hi : ∀ x ∈ S0, x.n = -1) : ∀ (k i : Nat) (x : St), (runTo blue S0 k).S[i]? = some x → MInv blue x (ofT i (runTo blue S0 k).M)
  | 0, i, x, hx => by
    have := hi x (List.mem_of_getElem? hx)
    show MInv blue x []
    exact ⟨fun _ => rfl, fun h => by omega, fun j m hj => by simp at hj, fun _ m hm => (by cases hm), fun _ j j' m m' _ hj => by simp at hj, fun _ _ j m hj => by simp at hj, fun _ _ j m hj => by simp at hj⟩
  | k + 1, i, x, hx => by
    have ih := run_minv blue S0 h0 hi k
    have hok := run_okS blue S0 h0 k
    rw [runTo] at hx ⊢
    simp only [stepS] at hx ⊢
    generalize runTo blue S0 k = r at *
    have mid : ∀ (y : St), (r.S.map (tq blue k))[i]? = some y → MInv blue y (ofT i (r.M ++ mkl k 0 r.S)) := by
      intro y hy
      rw [List.getElem?_map, Option.map_eq_some_iff] at hy
      obtain ⟨z, hz, rfl⟩ := hy
      have e := ofT_mkl (k : Int) r.S i 0 z hz
      rw [Nat.zero_add] at e
      rw [ofT_app, e]
      unfold tq mq
      split
      · exact minv_turn i (hok z (List.mem_of_getElem? hz)) (ih i z hz)
      · rw [List.append_nil]; exact ih i z hz
    generalize r.S.map (tq blue k) = S1 at *
    unfold decS at hx
    split at hx
    · exact mid x hx
    · rw [List.getElem?_set] at hx
      split at hx
      · rename_i he
        split at hx
        · injection hx with hx
          subst hx
          rename_i hl
          refine minv_dec (mid _ ?_)
          rw [he, List.getD_eq_getElem?_getD, List.getElem?_eq_getElem (by omega)]
          rfl
        · cases hx
      · exact mid x hx
theorem run_alike (blue : Bool) (S0 : List St) : ∀ (k i : Nat) (x : St), (runTo blue S0 k).S[i]? = some x → ∀ y, S0[i]? = some y → alike x y
  | 0, i, x, hx, y, hy => by
    have hx' : S0[i]? = some x := hx
    rw [hy] at hx'
    injection hx' with hx'
    subst hx'
    exact ⟨rfl, rfl, rfl⟩
  | k + 1, i, x, hx, y, hy => by
    have ih := run_alike blue S0 k i
    rw [runTo] at hx
    simp only [stepS] at hx
    generalize runTo blue S0 k = r at *
    have mid : ∀ (z : St), (r.S.map (tq blue k))[i]? = some z → alike z y := by
      intro z hz
      rw [List.getElem?_map, Option.map_eq_some_iff] at hz
      obtain ⟨u, hu, rfl⟩ := hz
      obtain ⟨a1, a2, a3⟩ := ih u hu y hy
      obtain ⟨b1, b2, b3⟩ := tq_alike blue k u
      exact ⟨b1.trans a1, b2.trans a2, b3.trans a3⟩
    generalize r.S.map (tq blue k) = S1 at *
    unfold decS at hx
    split at hx
    · exact mid x hx
    · rw [List.getElem?_set] at hx
      split at hx
      · rename_i he
        split at hx
        · injection hx with hx
          subst hx
          rename_i hl
          have hz : S1[i]? = some (S1.getD (atS blue S1).toNat default) := by
            rw [he, List.getD_eq_getElem?_getD, List.getElem?_eq_getElem (by omega)]
            rfl
          have hq := mid _ hz
          exact ⟨hq.1, hq.2.1, hq.2.2⟩
        · cases hx
      · exact mid x hx
theorem run_skip (blue : Bool) (S0 : List St) (k i : Nat) (x : St) (hx : (runTo blue S0 k).S[i]? = some x) (y : St) (hy : S0[i]? = some y) : x.s = y.s := (run_alike blue S0 k i x hx y hy).2.2
theorem marks_red (blue : Bool) (S0 : List St) (h0 : ∀ x ∈ S0, okS blue 0 x) (hs : ∀ x ∈ S0, x.s = 0) : ∀ (k : Nat) (m : S33), m ∈ (runTo blue S0 k).M → m.f2 = true
  | 0, m, h => by cases h
  | k + 1, m, h => by
    have ih := marks_red blue S0 h0 hs k m
    have hok := run_okS blue S0 h0 k
    have hl := runTo_len blue S0 k
    have hz : ∀ x ∈ (runTo blue S0 k).S, x.s = 0 := fun x hx => by
      obtain ⟨i, hi, rfl⟩ := List.mem_iff_getElem.1 hx
      have hi0 : i < S0.length := by omega
      rw [run_skip blue S0 k i _ (List.getElem?_eq_getElem hi) _ (List.getElem?_eq_getElem hi0)]
      exact hs _ (List.getElem_mem hi0)
    rw [runTo] at h
    simp only [stepS] at h
    rcases List.mem_append.1 h with h | h
    · exact ih h
    · obtain ⟨j, x, hx, hm⟩ := mem_mkl _ _ _ _ h
      have hxm := List.mem_of_getElem? hx
      unfold mq markS at hm
      split at hm
      · split at hm
        · rename_i hn
          rw [List.mem_singleton] at hm
          subst hm
          rcases (hok x hxm).2.2.2.2.2.2.2.2.2.1 (hz x hxm) with h | h
          · omega
          · exact h
        · cases hm
      · cases hm

end Go.Proofs.Ytkjboaepeecinaa.PSk
