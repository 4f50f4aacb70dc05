/- The plain model of skip.Run: tasks that may skip, red and blue jobs; and that red jobs are met where the demand of any span goes into it. -/
import Derived.Test.YtkjboaepeecinaaPSkx0
namespace Go.Proofs.Ytkjboaepeecinaa.PSk
open Go.RowKit Go.Proofs.Ytkjboaepeecinaa.PSk Go.Proofs.YtkjboaepeecinaaW.PrintWords Go.Proofs.YtkjboaepeecinaaW.PrintLast Go.Proofs.YtkjboaepeecinaaW.PrintMore 
set_option linter.unusedVariables false
set_option linter.unusedSimpArgs false

structure St where
  p : Int
  need : Int
  s : Int
  n : Int
  e : Int
  left : Int
  red : Bool
  reds : Int
deriving Inhabited
def ini (p need s : Int) : St := ⟨p, need, s, -1, 0, 0, false, s - 1⟩
def colR (blue : Bool) (s n reds : Int) (met was : Bool) : Bool × Int :=
  if s = 0 then (true, reds) else if blue = false then (decide ((n + 1).tmod s ≠ 0), reds)
  else if (if was = true ∧ met = false then s - 1 else reds) = 0 then (false, 0) else (true, (if was = true ∧ met = false then s - 1 else reds) - 1)
def metS (x : St) : Bool := decide (0 ≤ x.n) && decide (x.left = 0)
def wasS (x : St) : Bool := decide (0 ≤ x.n) && !x.red
def turnS (blue : Bool) (x : St) (k : Int) : St :=
  ⟨x.p, x.need, x.s, x.n + 1, k + x.p, x.need, (colR blue x.s (x.n + 1) x.reds (metS x) (wasS x)).1, (colR blue x.s (x.n + 1) x.reds (metS x) (wasS x)).2⟩
def tq (blue : Bool) (k : Int) (x : St) : St := if k.tmod x.p = 0 then turnS blue x k else x
def markS (i : Nat) (x : St) : List S33 := if 0 ≤ x.n then [⟨i, x.n, x.red, decide (x.left = 0)⟩] else []
def mq (k : Int) (i : Nat) (x : St) : List S33 := if k.tmod x.p = 0 then markS i x else []
def mkl (k : Int) : Nat → List St → List S33
  | _, [] => []
  | i, x :: l => mq k i x ++ mkl k (i + 1) l
def better (red : Bool) (S : List St) (best : Int) (i : Nat) (x : St) : Int :=
  if x.red = red ∧ 0 < x.left ∧ (best < 0 ∨ x.e < (S.getD best.toNat default).e) then i else best
def firstTo (red : Bool) (S : List St) : Nat → Int
  | 0 => -1
  | i + 1 => better red S (firstTo red S i) i (S.getD i default)
def firstS (red : Bool) (S : List St) : Int := firstTo red S S.length
def atS (blue : Bool) (S : List St) : Int := if firstS true S = -1 ∧ blue = true then firstS false S else firstS true S
def decSt (x : St) : St := { x with left := x.left - 1 }
def decS (S : List St) (a : Int) : List St := if a = -1 then S else S.set a.toNat (decSt (S.getD a.toNat default))
structure Rn where
  S : List St
  T : List Int
  M : List S33
def stepS (blue : Bool) (k : Int) (r : Rn) : Rn :=
  ⟨decS (r.S.map (tq blue k)) (atS blue (r.S.map (tq blue k))), r.T ++ [atS blue (r.S.map (tq blue k))], r.M ++ mkl k 0 r.S⟩
def runTo (blue : Bool) (S0 : List St) : Nat → Rn
  | 0 => ⟨S0, [], []⟩
  | k + 1 => stepS blue k (runTo blue S0 k)
theorem mkl_take (k : Int) : ∀ (i j : Nat) (S : List St) (x : St), S[i]? = some x → mkl k j (S.take (i + 1)) = mkl k j (S.take i) ++ mq k (j + i) x
  | _, _, [], x, h => by simp at h
  | 0, j, y :: l, x, h => by
    have : y = x := by simpa using h
    subst this
    simp [mkl]
  | i + 1, j, y :: l, x, h => by
    have := mkl_take k i (j + 1) l x (by simpa using h)
    simp only [List.take_succ_cons, mkl]
    rw [this, List.append_assoc, show j + 1 + i = j + (i + 1) by omega]
theorem map_take (f : St → St) (i : Nat) (S : List St) (x : St) (h : S[i]? = some x) : ((S.take i).map f ++ S.drop i).set i (f x) = (S.take (i + 1)).map f ++ S.drop (i + 1) := by
  obtain ⟨hl, hx⟩ := List.getElem?_eq_some_iff.1 h
  subst hx
  rw [List.drop_eq_getElem_cons hl, List.set_append_right _ _ (by simp; omega)]
  simp only [List.length_map, List.length_take, Nat.min_eq_left (Nat.le_of_lt hl), Nat.sub_self, List.set_cons_zero]
  rw [List.take_succ_eq_append_getElem hl, List.map_append, List.append_assoc]
  rfl
theorem map_skip (f : St → St) (i : Nat) (S : List St) (x : St) (h : S[i]? = some x) (hf : f x = x) : (S.take i).map f ++ S.drop i = (S.take (i + 1)).map f ++ S.drop (i + 1) := by
  obtain ⟨hl, hx⟩ := List.getElem?_eq_some_iff.1 h
  subst hx
  rw [List.drop_eq_getElem_cons hl, List.take_succ_eq_append_getElem hl, List.map_append, List.append_assoc]
  simp [hf]
theorem mid_get (f : St → St) (i : Nat) (S : List St) (x : St) (h : S[i]? = some x) : ((S.take i).map f ++ S.drop i)[i]? = some x := by
  obtain ⟨hl, hx⟩ := List.getElem?_eq_some_iff.1 h
  rw [List.getElem?_append_right (by simp; omega)]
  simp [Nat.min_eq_left (Nat.le_of_lt hl), h]
theorem mid_len (f : St → St) (i : Nat) (S : List St) : ((S.take i).map f ++ S.drop i).length = S.length := by simp; omega
theorem mid_all (f : St → St) (S : List St) : (S.take S.length).map f ++ S.drop S.length = S.map f := by simp
theorem runTo_len (blue : Bool) (S0 : List St) : ∀ k, (runTo blue S0 k).S.length = S0.length
  | 0 => rfl
  | k + 1 => by
    have := runTo_len blue S0 k
    simp only [runTo, stepS, decS]
    split <;> simp [this]
theorem runTo_T (blue : Bool) (S0 : List St) : ∀ k, (runTo blue S0 k).T.length = k
  | 0 => rfl
  | k + 1 => by
    have := runTo_T blue S0 k
    simp only [runTo, stepS]
    simp [this]

end Go.Proofs.Ytkjboaepeecinaa.PSk
