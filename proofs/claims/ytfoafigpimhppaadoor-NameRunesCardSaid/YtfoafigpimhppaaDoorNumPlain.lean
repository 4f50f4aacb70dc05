/- What name.Num is, byte by byte (law3). -/
import Derived.Test.YtfoafigpimhppaaDoorNamePlain
import Derived.Test.YtfoafigpimhppaaDoorPNmx0
namespace Go.Proofs.YtfoafigpimhppaaDoor.Pure
open Go.RowKit Go.Proofs.YtfoafigpimhppaaDoor.PNm Go.Proofs.YtfoafigpimhppaaDoorW.PrintWords Go.Proofs.YtfoafigpimhppaaDoorW.PrintLast Go.Proofs.YtfoafigpimhppaaDoorW.PrintMore Go.Lib
set_option linter.unusedVariables false
set_option linter.unusedSimpArgs false

def digB (b : UInt8) : Bool := decide (48 ≤ b.toNat) && decide (b.toNat ≤ 57)
def numFL : List UInt8 → Int → Option Int
  | [], n => some n
  | b :: t, n => if digB b then numFL t (n * 10 + ((b.toNat : Int) - 48)) else none
theorem numF_eq (s : ByteArray) : ∀ f p n, s.size ≤ p + f → p ≤ s.size → numF (runesF s f p) n = numFL ((bL s).drop p) n := by
  intro f
  have ends : ∀ p n, p = s.size → numF [] n = numFL ((bL s).drop p) n := by
    rintro p n rfl
    rw [List.drop_eq_nil_of_le (by rw [bL_len]; exact Nat.le_refl _)]
    rfl
  induction f with
  | zero => intro p n h0 h1; exact ends p n (by omega)
  | succ f ih =>
    intro p n h0 h1
    by_cases hp : p < s.size
    · have hl : p < (bL s).length := by rw [bL_len]; exact hp
      rw [runesF_step s f p hp, drop_at (bL s) p hl]
      have hK := Lib.decode_width_pos s p hp
      simp only [numF, numFL]
      by_cases ha : ((bL s).getD p 0).toNat < 128
      · have e : Utf8.decode s p = (((bL s).getD p 0).toNat, 1) := by
          rw [Lib.decode_N s p]
          unfold decodeN
          rw [if_pos (show (s.data.toList.getD p 0).toNat < 128 from ha)]
          rfl
        rw [e]
        simp only [isDig, digB]
        rw [ih (p + 1) _ (by omega) (by omega)]
        rfl
      · have hr : 128 ≤ (Utf8.decode s p).1 := by
          rw [Lib.decode_N s p]
          exact (decodeN_cont _ _ _ _ _ (show 128 ≤ ((bL s).getD p 0).toNat by omega)).1
        have n1 : isDig (Utf8.decode s p).1 = false := by simp [isDig]; omega
        have n2 : digB ((bL s).getD p 0) = false := by simp only [digB, Bool.and_eq_false_iff]; right; simp only [decide_eq_false_iff_not]; omega
        rw [if_neg (by rw [n1]; decide), if_neg (by rw [n2]; decide)]
    · rw [runesF_end s _ p hp]
      exact ends p n (by omega)
def numS (l : List UInt8) : Int × Bool :=
  if (Lib.trimPrefix l [45]).length < 1 ∨ 12 < (Lib.trimPrefix l [45]).length then (0, false)
  else match numFL (Lib.trimPrefix l [45]) 0 with
    | none => (0, false)
    | some n => (if Lib.hasPrefix l [45] then -n else n, true)
theorem numB_eq (s : ByteArray) : numB s = numS (bL s) := by
  unfold numB numS
  have hr : bL (numRest s) = Lib.trimPrefix (bL s) [45] := by unfold numRest; exact bL_Bs _
  have hs : (numRest s).size = (Lib.trimPrefix (bL s) [45]).length := by rw [← bL_len, hr]
  have hn : numF (runes (numRest s)) 0 = numFL (Lib.trimPrefix (bL s) [45]) 0 := by
    have := numF_eq (numRest s) (numRest s).size 0 0 (by omega) (Nat.zero_le _)
    rw [List.drop_zero, hr] at this
    exact this
  rw [hs, hn]
  rfl
theorem size_Bs (l : List UInt8) : (Bs l).size = l.length := by rw [← bL_len, bL_Bs]
theorem mono_up {g : Nat → Option Bool} (h : ∀ k, LeO (g k) (g (k + 1))) {a : Nat} {r : Bool} (ha : g a = some r) (d : Nat) : g (a + d) = some r := by
  induction d with
  | zero => exact ha
  | succ d ih => exact h _ r ih

end Go.Proofs.YtfoafigpimhppaaDoor.Pure
