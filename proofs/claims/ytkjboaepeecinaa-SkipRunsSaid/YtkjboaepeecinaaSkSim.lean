/- The reference's lives go along with the program's states; whom its pick tells. -/
import Derived.Test.YtkjboaepeecinaaPSkx12
import Derived.Test.YtkjboaepeecinaaSkLf
import Derived.Test.YtkjboaepeecinaaSkMarks
namespace Go.Proofs.Ytkjboaepeecinaa.PSk
open Go.RowKit Go.Proofs.Ytkjboaepeecinaa.PSk Go.Proofs.YtkjboaepeecinaaW.PrintWords Go.Proofs.YtkjboaepeecinaaW.PrintLast Go.Proofs.YtkjboaepeecinaaW.PrintMore 
set_option linter.unusedVariables false
set_option linter.unusedSimpArgs false

structure Sim (blue : Bool) (x : St) (y : S68) : Prop where
  zero : x.n = -1 → y = z68
  here : x.n ≠ -1 → y.f3 = true ∧ y.f0 = x.n ∧ y.f1 = x.need - x.left ∧ y.f4 = x.red
  rest : x.s ≠ 0 → blue = true → x.n ≠ -1 → (x.red = true → x.reds = x.s - 1 - y.f2 ∧ 1 ≤ y.f2) ∧ (x.red = false → y.f2 = x.s)
  bd : 0 ≤ y.f2 ∧ y.f2 ≤ 1000
/-- What the reference does to a life whose next job begins. -/
def lifeUp (y : S68) : S68 := if y.f3 = true then ⟨y.f0 + 1, y.f1, y.f2, y.f3, y.f4⟩ else y
def lifeNext (s need : Int) (blue : Bool) (y : S68) : S68 :=
  ⟨(lifeUp y).f0, 0, (colL s blue (decide (need ≤ y.f1)) (lifeUp y)).2, true, (colL s blue (decide (need ≤ y.f1)) (lifeUp y)).1⟩
theorem sim_next {blue : Bool} {k : Int} {x : St} {y : S68} (h : okS blue k x) (hs : x.s ≤ 1000) (hm : Sim blue x y) : Sim blue (turnS blue x k) (lifeNext x.s x.need blue y) := by
  obtain ⟨h1, h2, h3, h4, h5, h6, h7, h8, h9, h10, h11, h12, h13⟩ := h
  have en : (turnS blue x k).n = x.n + 1 := rfl
  have es : (turnS blue x k).s = x.s := rfl
  have key : (colL x.s blue (decide (x.need ≤ y.f1)) (lifeUp y)).1 = (colR blue x.s (x.n + 1) x.reds (metS x) (wasS x)).1 ∧ (lifeUp y).f0 = x.n + 1 ∧
      (0 ≤ (colL x.s blue (decide (x.need ≤ y.f1)) (lifeUp y)).2 ∧ (colL x.s blue (decide (x.need ≤ y.f1)) (lifeUp y)).2 ≤ 1000) ∧
      (x.s ≠ 0 → blue = true → ((colR blue x.s (x.n + 1) x.reds (metS x) (wasS x)).1 = true → (colR blue x.s (x.n + 1) x.reds (metS x) (wasS x)).2 = x.s - 1 - (colL x.s blue (decide (x.need ≤ y.f1)) (lifeUp y)).2 ∧ 1 ≤ (colL x.s blue (decide (x.need ≤ y.f1)) (lifeUp y)).2) ∧ ((colR blue x.s (x.n + 1) x.reds (metS x) (wasS x)).1 = false → (colL x.s blue (decide (x.need ≤ y.f1)) (lifeUp y)).2 = x.s)) := by
    by_cases hn : x.n = -1
    · have hy := hm.zero hn
      subst hy
      have eu : lifeUp z68 = z68 := by unfold lifeUp; rw [if_neg (by simp [z68])]
      rw [eu]
      have w1 : wasS x = false := by simp [wasS, hn]
      rw [w1]
      by_cases hs0 : x.s = 0
      · unfold colL colR
        rw [if_pos hs0, if_pos hs0]
        exact ⟨rfl, by rw [hn]; rfl, by simp [z68], fun h => absurd hs0 h⟩
      · cases blue with
        | false =>
          unfold colL colR
          rw [if_neg hs0, if_neg hs0, if_pos rfl, if_pos rfl, hn]
          exact ⟨rfl, rfl, by simp [z68], fun _ h => by cases h⟩
        | true =>
          have hb := (h12 hs0 rfl).2.2.1 hn
          have e1 : colL x.s true (decide (x.need ≤ z68.f1)) z68 = (decide (1 < x.s), 1) := by unfold colL; rw [if_neg hs0, if_neg (by decide), if_neg (by simp [z68])]; simp [z68]
          have e2 : colR true x.s (x.n + 1) x.reds (metS x) false = (true, x.reds - 1) := by
            unfold colR
            rw [if_neg hs0, if_neg (by decide)]
            simp only [Bool.false_eq_true, false_and, if_false]
            rw [if_neg (by omega)]
          rw [e1, e2]
          refine ⟨decide_eq_true (by omega), by rw [hn]; rfl, by simp, fun _ _ => ⟨fun _ => ⟨by simp only; omega, by simp⟩, fun h => by simp at h⟩⟩
    · obtain ⟨g1, g2, g3, g4⟩ := hm.here hn
      have eu : lifeUp y = ⟨y.f0 + 1, y.f1, y.f2, y.f3, y.f4⟩ := if_pos g1
      rw [eu]
      have hbd := hm.bd
      have em : decide (x.need ≤ y.f1) = decide (x.left = 0) := by rw [decide_eq_decide, g3]; omega
      rw [em]
      have em2 : metS x = decide (x.left = 0) := by unfold metS; rw [decide_eq_true (show 0 ≤ x.n by omega), Bool.true_and]
      have ew : wasS x = !x.red := by unfold wasS; rw [decide_eq_true (show 0 ≤ x.n by omega), Bool.true_and]
      rw [em2, ew]
      by_cases hs0 : x.s = 0
      · unfold colL colR
        rw [if_pos hs0, if_pos hs0]
        exact ⟨rfl, by show y.f0 + 1 = _; omega, hbd, fun h => absurd hs0 h⟩
      · cases blue with
        | false =>
          unfold colL colR
          rw [if_neg hs0, if_neg hs0, if_pos rfl, if_pos rfl]
          simp only
          rw [g2]
          exact ⟨rfl, rfl, hbd, fun _ h => by cases h⟩
        | true =>
          have hr := hm.rest hs0 rfl hn
          have h12' := h12 hs0 rfl
          cases hq : x.red with
          | true =>
            rw [hq] at g4
            have hr1 := hr.1 hq
            have e1 : colL x.s true (decide (x.left = 0)) ⟨y.f0 + 1, y.f1, y.f2, y.f3, y.f4⟩ = (decide (y.f2 + 1 < x.s), y.f2 + 1) := by
              unfold colL
              simp only [g1, g4]
              rw [if_neg hs0, if_neg (by decide), if_neg (by simp)]
              simp
            rw [e1]
            by_cases hz : x.reds = 0
            · have e2 : colR true x.s (x.n + 1) x.reds (decide (x.left = 0)) (!true) = (false, 0) := by
                unfold colR
                rw [if_neg hs0, if_neg (by decide)]
                simp [hz]
              rw [e2]
              refine ⟨decide_eq_false (by omega), by show y.f0 + 1 = _; omega, ⟨by show 0 ≤ y.f2 + 1; omega, by show y.f2 + 1 ≤ 1000; omega⟩, fun _ _ => ⟨fun h => by simp at h, fun _ => by show y.f2 + 1 = x.s; omega⟩⟩
            · have e2 : colR true x.s (x.n + 1) x.reds (decide (x.left = 0)) (!true) = (true, x.reds - 1) := by
                unfold colR
                rw [if_neg hs0, if_neg (by decide)]
                simp [hz]
              rw [e2]
              refine ⟨decide_eq_true (by omega), by show y.f0 + 1 = _; omega, ⟨by show 0 ≤ y.f2 + 1; omega, by show y.f2 + 1 ≤ 1000; omega⟩, fun _ _ => ⟨fun _ => ⟨by show x.reds - 1 = x.s - 1 - (y.f2 + 1); omega, by show 1 ≤ y.f2 + 1; omega⟩, fun h => by simp at h⟩⟩
          | false =>
            rw [hq] at g4
            have hr2 := hr.2 hq
            have hr0 := h12'.2.2.2 hn hq
            by_cases hl : x.left = 0
            · have e1 : colL x.s true (decide (x.left = 0)) ⟨y.f0 + 1, y.f1, y.f2, y.f3, y.f4⟩ = (false, y.f2) := by
                unfold colL
                simp only [g1, g4, hl]
                rw [if_neg hs0, if_neg (by decide), if_pos (by simp)]
              have e2 : colR true x.s (x.n + 1) x.reds (decide (x.left = 0)) (!false) = (false, 0) := by
                unfold colR
                rw [if_neg hs0, if_neg (by decide)]
                simp [hl, hr0]
              rw [e1, e2]
              refine ⟨rfl, by show y.f0 + 1 = _; omega, hbd, fun _ _ => ⟨fun h => by simp at h, fun _ => hr2⟩⟩
            · have e1 : colL x.s true (decide (x.left = 0)) ⟨y.f0 + 1, y.f1, y.f2, y.f3, y.f4⟩ = (decide (1 < x.s), 1) := by
                unfold colL
                simp only [g1, g4, decide_eq_false hl]
                rw [if_neg hs0, if_neg (by decide), if_neg (by simp)]
                simp
              have e2 : colR true x.s (x.n + 1) x.reds (decide (x.left = 0)) (!false) = (true, x.s - 1 - 1) := by
                unfold colR
                rw [if_neg hs0, if_neg (by decide), decide_eq_false hl]
                simp only [Bool.not_false, and_self, if_true]
                rw [if_neg (by omega)]
              rw [e1, e2]
              refine ⟨decide_eq_true (by omega), by show y.f0 + 1 = _; omega, by simp, fun _ _ => ⟨fun _ => ⟨rfl, by simp⟩, fun h => by simp at h⟩⟩
  obtain ⟨k1, k2, k3, k4⟩ := key
  refine ⟨fun h => by rw [en] at h; omega, fun _ => ⟨rfl, k2, ?_, k1⟩, fun h hb _ => k4 h hb, k3⟩
  show 0 = x.need - x.need
  omega
theorem sim_dec {blue : Bool} {x : St} {y : S68} (hm : Sim blue x y) (hn : x.n ≠ -1) : Sim blue (decSt x) ⟨y.f0, y.f1 + 1, y.f2, y.f3, y.f4⟩ := by
  obtain ⟨g1, g2, g3, g4⟩ := hm.here hn
  refine ⟨fun h => absurd h hn, fun _ => ⟨g1, g2, ?_, g4⟩, fun h hb h' => hm.rest h hb hn, hm.bd⟩
  show y.f1 + 1 = x.need - (x.left - 1)
  omega
def SimL (blue : Bool) (S : List St) (xs : List S68) : Prop := xs.length = S.length ∧ ∀ (i : Nat) (x : St) (y : S68), S[i]? = some x → xs[i]? = some y → Sim blue x y
theorem sim_get {blue : Bool} {S : List St} {xs : List S68} (h : SimL blue S xs) (i : Nat) (x : St) (hx : S[i]? = some x) : ∃ y, xs[i]? = some y ∧ xs.getD i z68 = y ∧ Sim blue x y := by
  have hl := (List.getElem?_eq_some_iff.1 hx).1
  have hy : xs[i]? = some (xs[i]'(by have := h.1; omega)) := List.getElem?_eq_getElem _
  exact ⟨_, hy, by rw [List.getD_eq_getElem?_getD, hy]; rfl, h.2 i x _ hx hy⟩
theorem sim_set {blue : Bool} {S : List St} {xs : List S68} (h : SimL blue S xs) (i : Nat) (x : St) (y : S68) (hm : Sim blue x y) : SimL blue (S.set i x) (xs.set i y) := by
  refine ⟨by rw [List.length_set, List.length_set]; exact h.1, fun j a b ha hb => ?_⟩
  by_cases hij : i = j
  · subst hij
    rw [List.getElem?_set] at ha hb
    simp only [if_true] at ha hb
    split at ha
    · split at hb
      · injection ha with ha
        injection hb with hb
        subst ha hb
        exact hm
      · cases hb
    · cases ha
  · rw [List.getElem?_set_ne hij] at ha hb
    exact h.2 j a b ha hb
theorem sim_ini (blue : Bool) (S : List St) (hi : ∀ x ∈ S, x.n = -1) : SimL blue S (List.replicate S.length z68) := by
  refine ⟨by simp, fun i x y hx hy => ?_⟩
  have hn := hi x (List.mem_of_getElem? hx)
  have e : y = z68 := by
    have := List.mem_of_getElem? hy
    exact (List.mem_replicate.1 this).2
  subst e
  exact ⟨fun _ => rfl, fun h => absurd hn h, fun _ _ h => absurd hn h, by simp [z68]⟩
theorem w64' {x : Int} (h0 : -9223372036854775808 ≤ x) (h1 : x ≤ 9223372036854775807) : wrap64 x = x := by simp only [wrap64]; omega
theorem pick_l0 (blue red : Bool) (k0 : Int) (hk0 : 0 ≤ k0 ∧ k0 ≤ 20000) (S : List St) (l : List S66) (xs : List S68) (hS : SimL blue S xs) (hl : l.length = S.length) (hlen : S.length ≤ 1000) (hok : ∀ x ∈ S, okS blue k0 x) (hb : ∀ x ∈ S, okB k0 x)
    (hp : ∀ (i : Nat) (x : St), S[i]? = some x → (rd_T66 l (i : Int)).f0 = x.p ∧ (rd_T66 l (i : Int)).f1 = x.need) :
    ∀ (d k i : Nat) (e : Int), i ≤ S.length → S.length - i = d → d < k → (0 ≤ firstTo red S i → e = (S.getD (firstTo red S i).toNat default).e) → tocsinref21_pick.l0 k l xs red (firstTo red S i) e (i : Int) = some (firstS red S) := by
  intro d
  induction d with
  | zero =>
    intro k i e hi hd hk he
    obtain ⟨k, rfl⟩ : ∃ m, k = m + 1 := ⟨k - 1, by omega⟩
    simp only [tocsinref21_pick.l0]
    rw [if_neg (by omega), show i = S.length by omega]
    rfl
  | succ d ih =>
    intro k i e hi hd hk he
    obtain ⟨k, rfl⟩ : ∃ m, k = m + 1 := ⟨k - 1, by omega⟩
    simp only [tocsinref21_pick.l0]
    have hxl := hS.1
    obtain ⟨x, hx⟩ : ∃ x, S[i]? = some x := ⟨_, List.getElem?_eq_getElem (by omega)⟩
    have hxd : S.getD i default = x := by rw [List.getD_eq_getElem?_getD, hx]; rfl
    obtain ⟨y, hy, hyd, hm⟩ := sim_get hS i x hx
    have hyr : rd_T68 xs (i : Int) = y := by unfold rd_T68; rw [show ((i : Int)).toNat = i by omega]; exact hyd
    obtain ⟨p1, p2⟩ := hp i x hx
    have ho := hok x (List.mem_of_getElem? hx)
    have hbx := hb x (List.mem_of_getElem? hx)
    rw [if_pos (by omega), if_pos (by omega), if_pos (by omega), hyr, p1, p2, w64' (x := (i : Int) + 1) (by omega) (by omega)]
    have hst : firstTo red S (i + 1) = better red S (firstTo red S i) i x := by rw [firstTo, hxd]
    have go : ∀ e', (0 ≤ firstTo red S (i + 1) → e' = (S.getD (firstTo red S (i + 1)).toNat default).e) → tocsinref21_pick.l0 k l xs red (firstTo red S (i + 1)) e' ((i : Int) + 1) = some (firstS red S) := fun e' h => ih k (i + 1) e' (by omega) (by omega) (by omega) h
    have hout : ¬ (x.red = red ∧ 0 < x.left ∧ (firstTo red S i < 0 ∨ x.e < (S.getD (firstTo red S i).toNat default).e)) → tocsinref21_pick.l0 k l xs red (firstTo red S i) e ((i : Int) + 1) = some (firstS red S) := fun h => by
      have e1 : firstTo red S (i + 1) = firstTo red S i := by rw [hst, better, if_neg h]
      have := go e (by rw [e1]; exact he)
      rw [e1] at this
      exact this
    have hin : (x.red = red ∧ 0 < x.left ∧ (firstTo red S i < 0 ∨ x.e < (S.getD (firstTo red S i).toNat default).e)) → tocsinref21_pick.l0 k l xs red (i : Int) x.e ((i : Int) + 1) = some (firstS red S) := fun h => by
      have e1 : firstTo red S (i + 1) = (i : Int) := by rw [hst, better, if_pos h]
      have := go x.e (by rw [e1]; intro _; rw [show ((i : Int)).toNat = i by omega, hxd])
      rw [e1] at this
      exact this
    by_cases hn : x.n = -1
    · have hz := hm.zero hn
      subst hz
      rw [if_neg (by simp [z68])]
      refine hout fun h => ?_
      have := (ho.2.2.2.2.2.2.2.2.2.2.1 hn).2
      omega
    · obtain ⟨g1, g2, g3, g4⟩ := hm.here hn
      rw [if_pos g1, g4, g2, g3]
      have hn0 := hbx.2.2.2.1
      have he5 := ho.2.2.2.2.1
      have hbe := hbx.2.2.2.2.1
      rw [w64' (x := x.n + 1) (by omega) (by omega), ← he5, w64' (x := x.e) (by omega) (by omega)]
      by_cases q1 : x.red = red
      · rw [if_pos (by simp [q1])]
        by_cases q2 : 0 < x.left
        · rw [if_pos (by omega)]
          by_cases q3 : firstTo red S i < 0
          · rw [if_pos q3]
            exact hin ⟨q1, q2, .inl q3⟩
          · rw [if_neg q3, he (by omega)]
            by_cases q4 : x.e < (S.getD (firstTo red S i).toNat default).e
            · rw [if_pos q4]
              exact hin ⟨q1, q2, .inr q4⟩
            · rw [if_neg q4, ← he (by omega)]
              exact hout (by rintro ⟨_, _, h | h⟩ <;> omega)
        · rw [if_neg (by omega)]
          exact hout (fun h => q2 h.2.1)
      · rw [if_neg (by simpa using q1)]
        exact hout (fun h => q1 h.1)
theorem pick_is (blue red : Bool) (k0 kk : Int) (hk0 : 0 ≤ k0 ∧ k0 ≤ 20000) (S : List St) (l : List S66) (xs : List S68) (hS : SimL blue S xs) (hl : l.length = S.length) (hlen : S.length ≤ 1000) (hok : ∀ x ∈ S, okS blue k0 x) (hb : ∀ x ∈ S, okB k0 x)
    (hp : ∀ (i : Nat) (x : St), S[i]? = some x → (rd_T66 l (i : Int)).f0 = x.p ∧ (rd_T66 l (i : Int)).f1 = x.need) : tocsinref21_pick.f 2000 l xs kk red = some (firstS red S) := by
  unfold tocsinref21_pick.f
  exact pick_l0 blue red k0 hk0 S l xs hS hl hlen hok hb hp S.length 2000 0 0 (by omega) (by omega) (by omega) (fun h => by simp [firstTo] at h)

end Go.Proofs.Ytkjboaepeecinaa.PSk
