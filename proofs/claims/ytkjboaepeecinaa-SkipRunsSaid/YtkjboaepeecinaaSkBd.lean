/- Bounds of what skip.Run reckons with. -/
import Derived.Test.YtkjboaepeecinaaPSkx0
import Derived.Test.YtkjboaepeecinaaSkEdf
namespace Go.Proofs.Ytkjboaepeecinaa.PSk
open Go.RowKit Go.Proofs.Ytkjboaepeecinaa.PSk Go.Proofs.YtkjboaepeecinaaW.PrintWords Go.Proofs.YtkjboaepeecinaaW.PrintLast Go.Proofs.YtkjboaepeecinaaW.PrintMore 
set_option linter.unusedVariables false
set_option linter.unusedSimpArgs false

def okB (k : Int) (x : St) : Prop := (1 ≤ x.p ∧ x.p ≤ 10000) ∧ (1 ≤ x.need ∧ x.need ≤ 1000) ∧ (0 ≤ x.s ∧ x.s ≤ 1000) ∧ (-1 ≤ x.n ∧ x.n ≤ k - 1) ∧ (0 ≤ x.e ∧ x.e ≤ k + 10000) ∧ (0 ≤ x.left ∧ x.left ≤ 1000) ∧ (-1 - k ≤ x.reds ∧ x.reds ≤ 1000)
theorem okB_mono {k : Int} {x : St} (h : okB k x) : okB (k + 1) x := by
  obtain ⟨h1, h2, h3, ⟨h4, h5⟩, ⟨h6, h7⟩, h8, h9, h10⟩ := h
  exact ⟨h1, h2, h3, ⟨h4, by omega⟩, ⟨h6, by omega⟩, h8, by omega, h10⟩
theorem colR_bd (blue : Bool) (s n reds : Int) (met was : Bool) (k : Int) (hk : 0 ≤ k) (h0 : 0 ≤ s) (h1 : s ≤ 1000) (h2 : -1 - k ≤ reds) (h3 : reds ≤ 1000) : -1 - (k + 1) ≤ (colR blue s n reds met was).2 ∧ (colR blue s n reds met was).2 ≤ 1000 := by
  unfold colR
  split
  · exact ⟨by show -1 - (k + 1) ≤ reds; omega, h3⟩
  split
  · exact ⟨by show -1 - (k + 1) ≤ reds; omega, h3⟩
  have hr : -1 - k ≤ (if was = true ∧ met = false then s - 1 else reds) ∧ (if was = true ∧ met = false then s - 1 else reds) ≤ 1000 := by split <;> omega
  generalize (if was = true ∧ met = false then s - 1 else reds) = r at *
  split
  · exact ⟨by show -1 - (k + 1) ≤ (0 : Int); omega, by show (0 : Int) ≤ 1000; omega⟩
  · exact ⟨by show -1 - (k + 1) ≤ r - 1; omega, by show r - 1 ≤ 1000; omega⟩
theorem tq_bd {blue : Bool} {k : Int} {x : St} (hk : 0 ≤ k) (h : okB k x) : okB (k + 1) (tq blue k x) := by
  unfold tq
  split
  · obtain ⟨⟨a1, a2⟩, ⟨b1, b2⟩, ⟨c1, c2⟩, ⟨h4, h5⟩, ⟨h6, h7⟩, h8, h9, h10⟩ := h
    exact ⟨⟨a1, a2⟩, ⟨b1, b2⟩, ⟨c1, c2⟩, ⟨by show -1 ≤ x.n + 1; omega, by show x.n + 1 ≤ k + 1 - 1; omega⟩, ⟨by show 0 ≤ k + x.p; omega, by show k + x.p ≤ k + 1 + 10000; omega⟩, ⟨by show 0 ≤ x.need; omega, by show x.need ≤ 1000; omega⟩, colR_bd blue x.s (x.n + 1) x.reds _ _ k hk c1 c2 h9 h10⟩
  · exact okB_mono h
theorem dec_bd {k : Int} {blue : Bool} {S : List St} (h : ∀ x ∈ S, okB k x) : ∀ x ∈ decS S (atS blue S), okB k x := by
  unfold decS
  split
  · exact h
  · rename_i hne
    have go : ∀ (b : Nat) (x : St), atS blue S = (b : Nat) → S[b]? = some x → 0 < x.left → ∀ y ∈ S.set (atS blue S).toNat (decSt (S.getD (atS blue S).toNat default)), okB k y := by
      intro b x e hx hl y hy
      have hxd : S.getD b default = x := by rw [List.getD_eq_getElem?_getD, hx]; rfl
      rw [e, show ((b : Int)).toNat = b by omega, hxd] at hy
      rcases List.mem_or_eq_of_mem_set hy with hy | rfl
      · exact h y hy
      · obtain ⟨h1, h2, h3, h4, h5, ⟨h6, h7⟩, h8⟩ := h x (List.mem_of_getElem? hx)
        exact ⟨h1, h2, h3, h4, h5, ⟨by show 0 ≤ x.left - 1; omega, by show x.left - 1 ≤ 1000; omega⟩, h8⟩
    rcases atS_spec blue S with ⟨e, _⟩ | ⟨b, x, e, hx, _, hl, _⟩ | ⟨b, x, e, hx, _, hl, _⟩
    · exact absurd e hne
    · exact go b x e hx hl
    · exact go b x e hx hl
theorem mkl_len (k : Int) : ∀ (S : List St) (i : Nat), (mkl k i S).length ≤ S.length
  | [], _ => Nat.le_refl _
  | x :: l, i => by
    have := mkl_len k l (i + 1)
    have h2 : (mq k i x).length ≤ 1 := by unfold mq markS; split <;> (try split) <;> simp
    simp only [mkl, List.length_append, List.length_cons]
    omega
theorem run_bd (blue : Bool) (S0 : List St) (h0 : ∀ x ∈ S0, okB 0 x) : ∀ k : Nat, (∀ x ∈ (runTo blue S0 k).S, okB k x) ∧ (runTo blue S0 k).M.length ≤ k * S0.length
  | 0 => ⟨h0, by simp [runTo]⟩
  | k + 1 => by
    obtain ⟨h1, h2⟩ := run_bd blue S0 h0 k
    have hl := runTo_len blue S0 k
    rw [runTo]
    simp only [stepS]
    refine ⟨?_, ?_⟩
    · have := dec_bd (k := (k : Int) + 1) (blue := blue) (S := (runTo blue S0 k).S.map (tq blue k)) (by
        intro x hx
        obtain ⟨y, hy, rfl⟩ := List.mem_map.1 hx
        exact tq_bd (by omega) (h1 y hy))
      exact fun x hx => by push_cast; exact this x hx
    · have := mkl_len k (runTo blue S0 k).S 0
      rw [List.length_append, Nat.succ_mul]
      omega
theorem mid_bd {blue : Bool} {k : Int} {S : List St} (hk : 0 ≤ k) (h : ∀ x ∈ S, okB k x) (i : Nat) : ∀ x ∈ (S.take i).map (tq blue k) ++ S.drop i, okB (k + 1) x := by
  intro x hx
  rcases List.mem_append.1 hx with hx | hx
  · obtain ⟨y, hy, rfl⟩ := List.mem_map.1 hx
    exact tq_bd hk (h y (List.mem_of_mem_take hy))
  · exact okB_mono (h x (List.mem_of_mem_drop hx))

end Go.Proofs.Ytkjboaepeecinaa.PSk
