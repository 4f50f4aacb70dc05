/- The contract of skip's colour. -/
import Derived.Test.YtkjboaepeecinaaSkHeap
import Derived.Test.YtkjboaepeecinaaPSkx0
namespace Go.Proofs.Ytkjboaepeecinaa.PSk
open Go.RowKit Go.Proofs.Ytkjboaepeecinaa.PSk Go.Proofs.YtkjboaepeecinaaW.PrintWords Go.Proofs.YtkjboaepeecinaaW.PrintLast Go.Proofs.YtkjboaepeecinaaW.PrintMore 
set_option linter.unusedVariables false
set_option linter.unusedSimpArgs false

def bdS (x : St) : Prop := (1 ≤ x.p ∧ x.p ≤ 10000) ∧ (1 ≤ x.need ∧ x.need ≤ 1000) ∧ (0 ≤ x.s ∧ x.s ≤ 1000) ∧ (-1 ≤ x.n ∧ x.n ≤ 1000000) ∧ (0 ≤ x.e ∧ x.e ≤ 1000000) ∧ (-1000000 ≤ x.left ∧ x.left ≤ 1000000) ∧ (-1000000 ≤ x.reds ∧ x.reds ≤ 1000000)
theorem low_set {W0 W : World} {R : Nat} (hB : Below W0.heap.size W0 W) (hg : W0.heap.size ≤ R) (i : Nat) (u : Value) : Below W0.heap.size W0 (W.setCell ⟨R, i, none⟩ u) := by
  refine ⟨hB.os, hB.tape, hB.output, ?_, fun k hk => ?_⟩
  · have := hB.size
    simpa [World.setCell] using this
  · rw [Below.heap_setCell W _ u k (by simp; omega)]
    exact hB.block k hk
theorem keep_set {W w' : World} {R : Nat} (h : KeepBut W w' R none) (i : Nat) (u : Value) : KeepBut W (w'.setCell ⟨R, i, none⟩ u) R none := by
  refine ⟨by have := h.1; simpa [World.setCell] using this, fun k hk hne hr => ?_⟩
  rw [Below.heap_setCell w' _ u k (by simpa using hne)]
  exact h.2 k hk hne hr
theorem keep_refl (W : World) (R : Nat) : KeepBut W W R none := ⟨Nat.le_refl _, fun _ _ _ _ => rfl⟩
theorem keep_drewN {W w' : World} {R : Nat} (h : KeepBut W w' R none) (n : Nat) : KeepBut W (w'.drewN n) R none := h
def ColV (W0 W w' : World) (a : Nat) (x : St) (e : Ending) (r : Bool × Int) : Prop :=
  e = .returned (.bool r.1) ∧ w'.heap[a]? = some (.cells (stC { x with reds := r.2 }) 62 (0, 0)) ∧ KeepBut W w' a none ∧ Below W0.heap.size W0 w'
attribute [local go_sem] max2_int min2_int max_two min_two
set_option maxHeartbeats 4000000 in
set_option maxRecDepth 100000 in
theorem colour_c (W0 W : World) (R a : Nat) (x : St) (blue met was : Bool) (hb : W.cell? ⟨R, 1, none⟩ = some (.bool blue)) (BK : W.heap[a]? = some (.cells (stC x) 62 (0, 0))) (hne : R ≠ a) (hB : Below W0.heap.size W0 W) (ha : W0.heap.size ≤ a) (hx : bdS x) :
    Calls Try.prog 32 #[.pointer (some ⟨R, 0, none⟩), .pointer (some ⟨a, 0, none⟩), .bool met, .bool was] W fun e w' => ColV W0 W w' a x e (colR blue x.s x.n x.reds met was) := by
  obtain ⟨p, need, s, n, en, left, red, reds⟩ := x
  obtain ⟨-, -, ⟨s0, s1⟩, ⟨n0, n1⟩, -, -, r0, r1⟩ := hx
  simp only at s0 s1 n0 n1 r0 r1
  have c2 : W.cell? ⟨a, 2, none⟩ = some (.int .i64 s) := (blk_cell BK 2).trans rfl
  have c3 : W.cell? ⟨a, 3, none⟩ = some (.int .i64 n) := (blk_cell BK 3).trans rfl
  have c7 : W.cell? ⟨a, 7, none⟩ = some (.int .i64 reds) := (blk_cell BK 7).trans rfl
  have f7 := blk_frozen BK 7
  have HBK := Aside0.mk BK
  have HB := Aside0.mk hB
  have HA := Aside0.mk ha
  clear BK hB ha
  by_cases h0 : s = 0
  · subst h0
    go_enter Try.func32, Try.ntmps32
    go_wp2
    go_ret
    exact ⟨rfl, HBK.out, keep_refl _ _, HB.out⟩
  · have z0 : (s == 0) = false := by simpa using h0
    cases blue with
    | false =>
      have hw : wrap64 (n + 1) = n + 1 := by simp only [wrap64]; omega
      have hcol : colR false s n reds met was = (decide ((n + 1).tmod s ≠ 0), reds) := by unfold colR; rw [if_neg h0, if_pos rfl]
      show Calls _ _ _ _ (fun e w' => ColV W0 W w' a _ e (colR false s n reds met was))
      rw [hcol]
      have HW := Aside0.mk hw
      clear hcol hw
      go_enter Try.func32, Try.ntmps32
      go_wp2
      go_quiet (fail)
      go_wp2
      go_ret
      refine ⟨?_, HBK.out, keep_drewN (keep_refl _ _) _, pw_below_drewN HB.out _⟩
      show Ending.returned (.bool ((n + 1) % s != 0)) = .returned (.bool (decide ((n + 1).tmod s ≠ 0)))
      rw [Int.tmod_eq_emod_of_nonneg (show 0 ≤ n + 1 by omega)]
      by_cases hq : (n + 1) % s = 0 <;> simp [hq]
    | true =>
      by_cases hm : was = true ∧ met = false
      · obtain ⟨rfl, rfl⟩ := hm
        have BK1 := Aside0.mk (blk_put (cs' := stC ⟨p, need, s, n, en, left, red, s - 1⟩) HBK.out 7 (.int .i64 (s - 1)) rfl)
        have hw : wrap64 (s - 1) = s - 1 := by simp only [wrap64]; omega
        have hw2 : wrap64 (s - 1 - 1) = s - 1 - 1 := by simp only [wrap64]; omega
        have hcol : colR true s n reds false true = if s - 1 = 0 then (false, 0) else (true, s - 1 - 1) := by unfold colR; rw [if_neg h0, if_neg (by decide)]; simp
        show Calls _ _ _ _ (fun e w' => ColV W0 W w' a _ e (colR true s n reds false true))
        rw [hcol]
        clear hcol
        by_cases hz : s - 1 = 0
        · rw [if_pos hz]
          have z1 : (s - 1 == 0) = true := by simpa using hz
          go_enter Try.func32, Try.ntmps32
          go_wp2
          go_ret
          have e : s - 1 = 0 := hz
          exact ⟨rfl, by rw [← e]; exact BK1.out, keep_set (keep_refl _ _) _ _, low_set HB.out HA.out _ _⟩
        · rw [if_neg hz]
          have z1 : (s - 1 == 0) = false := by simpa using hz
          go_enter Try.func32, Try.ntmps32
          go_wp2
          go_ret
          exact ⟨rfl, blk_put BK1.out 7 (.int .i64 (s - 1 - 1)) rfl, keep_set (keep_set (keep_refl _ _) _ _) _ _, low_set (low_set HB.out HA.out _ _) HA.out _ _⟩
      · have hcol : colR true s n reds met was = if reds = 0 then (false, 0) else (true, reds - 1) := by unfold colR; rw [if_neg h0, if_neg (by decide), if_neg hm]
        show Calls _ _ _ _ (fun e w' => ColV W0 W w' a _ e (colR true s n reds met was))
        rw [hcol]
        clear hcol
        have hw2 : wrap64 (reds - 1) = reds - 1 := by simp only [wrap64]; omega
        by_cases hz : reds = 0
        · subst hz
          rw [if_pos rfl]
          cases was <;> cases met <;> first | (exact absurd ⟨rfl, rfl⟩ hm) | (clear hm; go_enter Try.func32, Try.ntmps32; go_wp2; go_ret; exact ⟨rfl, HBK.out, keep_refl _ _, HB.out⟩)
        · rw [if_neg hz]
          have z1 : (reds == 0) = false := by simpa using hz
          have BK1 := Aside0.mk (blk_put (cs' := stC ⟨p, need, s, n, en, left, red, reds - 1⟩) HBK.out 7 (.int .i64 (reds - 1)) rfl)
          cases was <;> cases met <;> first | (exact absurd ⟨rfl, rfl⟩ hm) | (clear hm; go_enter Try.func32, Try.ntmps32; go_wp2; go_ret; exact ⟨rfl, BK1.out, keep_set (keep_refl _ _) _ _, low_set HB.out HA.out _ _⟩)

end Go.Proofs.Ytkjboaepeecinaa.PSk
