/- What chapter 1 says at the ends of the 64-bit numbers: one closed statement. -/
import Derived.Test.YtmoddlehcplbfaaPNumx
import Derived.Test.YtmoddlehcplbfaaNumKit
import Derived.Test.YtmoddlehcplbfaaRows
import Derived.WalkKit
import Derived.ProofKit
import Derived.OpenShut
import Derived.ShutString
import Derived.ChangeOld
import Derived.Below
import Derived.SizedLaws
import Derived.Carry
import Derived.Lib.SmallJoins
import Derived.Test.YtmoddlehcplbfaaWSized
namespace Go.Proofs.Ytmoddlehcplbfaa.Pure
open Go.RowKit Go.Proofs.Ytmoddlehcplbfaa.PNum Go.Proofs.YtmoddlehcplbfaaW.PrintWords Go.Proofs.YtmoddlehcplbfaaW.PrintLast Go.Proofs.YtmoddlehcplbfaaW.PrintMore 
set_option linter.unusedVariables false
set_option linter.unusedSimpArgs false

/-! The least number that all divide. -/
def lcmFrom : Nat → List Int → Nat
  | n, [] => n
  | n, x :: t => lcmFrom (Nat.lcm n x.natAbs) t
def lcmS (most : Int) (n : Nat) (l : List Int) : Int × Bool := if (∀ x ∈ l, 1 ≤ x) ∧ (lcmFrom n l : Int) ≤ most then ((lcmFrom n l : Int), true) else (0, false)
theorem lcmFrom_dvd : ∀ (l : List Int) (n : Nat), n ∣ lcmFrom n l
  | [], n => Nat.dvd_refl n
  | x :: t, n => Nat.dvd_trans (Nat.dvd_lcm_left n x.natAbs) (lcmFrom_dvd t _)
theorem lcmFrom_mem : ∀ (l : List Int) (n : Nat) (x : Int), x ∈ l → x.natAbs ∣ lcmFrom n l
  | y :: t, n, x, h => by
    rcases List.mem_cons.1 h with rfl | h
    · exact Nat.dvd_trans (Nat.dvd_lcm_right n x.natAbs) (lcmFrom_dvd t _)
    · exact lcmFrom_mem t _ x h
theorem lcmFrom_pos : ∀ (l : List Int) (n : Nat), 0 < n → (∀ x ∈ l, 1 ≤ x) → 0 < lcmFrom n l
  | [], n, h, _ => h
  | x :: t, n, h, hl => lcmFrom_pos t _ (Nat.lcm_pos h (by have := hl x (by simp); omega)) (fun y hy => hl y (by simp [hy]))
theorem lcmFrom_le (l : List Int) (n : Nat) (h : 0 < n) (hl : ∀ x ∈ l, 1 ≤ x) : n ≤ lcmFrom n l := Nat.le_of_dvd (lcmFrom_pos l n h hl) (lcmFrom_dvd l n)
theorem drop_rd (l : List Int) (i : Nat) (h : i < l.length) : l.drop i = rd l (i : Int) :: l.drop (i + 1) := by
  rw [List.drop_eq_getElem_cons h]
  congr 1
  unfold rd
  rw [show ((i : Int)).toNat = i by omega, List.getD_eq_getElem?_getD, List.getElem?_eq_getElem h]; rfl
theorem rd_mem (l : List Int) (i : Nat) (h : i < l.length) : rd l (i : Int) ∈ l := by
  unfold rd
  rw [show ((i : Int)).toNat = i by omega, List.getD_eq_getElem?_getD, List.getElem?_eq_getElem h]
  exact List.getElem_mem h
theorem lcmS_over (most : Int) (n : Nat) (x : Int) (t : List Int) (hn : 0 < n) (h : most < (Nat.lcm n x.natAbs : Int)) : lcmS most n (x :: t) = (0, false) := by
  unfold lcmS
  rw [if_neg]
  rintro ⟨h1, h2⟩
  have := lcmFrom_le t (Nat.lcm n x.natAbs) (Nat.lcm_pos hn (by have := h1 x (by simp); omega)) (fun y hy => h1 y (by simp [hy]))
  simp only [lcmFrom] at h2
  omega
theorem lcmS_low (most : Int) (n : Nat) (x : Int) (t : List Int) (h : x < 1) : lcmS most n (x :: t) = (0, false) := by
  unfold lcmS
  rw [if_neg]
  rintro ⟨h1, h2⟩
  have := h1 x (by simp); omega
theorem lcmS_step (most : Int) (n : Nat) (x : Int) (t : List Int) (h : 1 ≤ x) : lcmS most n (x :: t) = lcmS most (Nat.lcm n x.natAbs) t := by
  unfold lcmS
  simp only [lcmFrom]
  have : (∀ y ∈ x :: t, 1 ≤ y) ↔ ∀ y ∈ t, 1 ≤ y := ⟨fun g y hy => g y (by simp [hy]), fun g y hy => by rcases List.mem_cons.1 hy with rfl | hy; exact h; exact g y hy⟩
  simp only [this]
theorem gcd_div (n : Nat) (x : Int) (hn : 0 < n) (hx : 1 ≤ x) (hx2 : x ≤ 9223372036854775807) (hn2 : n ≤ 9223372036854775807) :
    gcdI (n : Int) x = (Nat.gcd n x.natAbs : Int) ∧ (Nat.gcd n x.natAbs : Int) ≠ 0 ∧ (n : Int) * (Int.tdiv x (Nat.gcd n x.natAbs : Int)) = (Nat.lcm n x.natAbs : Int) ∧ (Int.tdiv (n : Int) (Nat.gcd n x.natAbs : Int)) * x = (Nat.lcm n x.natAbs : Int) ∧
    0 ≤ Int.tdiv x (Nat.gcd n x.natAbs : Int) ∧ Int.tdiv x (Nat.gcd n x.natAbs : Int) ≤ x ∧ 0 ≤ Int.tdiv (n : Int) (Nat.gcd n x.natAbs : Int) ∧ Int.tdiv (n : Int) (Nat.gcd n x.natAbs : Int) ≤ n := by
  obtain ⟨m, rfl⟩ := Int.eq_ofNat_of_zero_le (show 0 ≤ x by omega)
  have hg : 0 < Nat.gcd n m := Nat.gcd_pos_of_pos_left _ hn
  have e1 : Int.tdiv (m : Int) (Nat.gcd n m : Int) = ((m / Nat.gcd n m : Nat) : Int) := by rw [Int.tdiv_eq_ediv_of_nonneg (by omega)]; simp
  have e2 : Int.tdiv (n : Int) (Nat.gcd n m : Int) = ((n / Nat.gcd n m : Nat) : Int) := by rw [Int.tdiv_eq_ediv_of_nonneg (by omega)]; simp
  have d1 : Nat.gcd n m ∣ m := Nat.gcd_dvd_right n m
  have d2 : Nat.gcd n m ∣ n := Nat.gcd_dvd_left n m
  have l1 : m / Nat.gcd n m ≤ m := Nat.div_le_self _ _
  have l2 : n / Nat.gcd n m ≤ n := Nat.div_le_self _ _
  simp only [Int.natAbs_natCast]
  rw [e1, e2]
  refine ⟨?_, by omega, ?_, ?_, Int.natCast_nonneg _, Int.ofNat_le.2 l1, Int.natCast_nonneg _, Int.ofNat_le.2 l2⟩
  · unfold gcdI; rw [if_neg (by omega)]; simp
  · rw [← Int.natCast_mul]; congr 1
    rw [Nat.lcm, Nat.mul_div_assoc n d1]
  · rw [← Int.natCast_mul]; congr 1
    rw [Nat.lcm, Nat.mul_comm n m, Nat.mul_div_assoc m d2, Nat.mul_comm]

theorem lcm_lost (most : Int) (l : List Int) (hlen : l.length < 9223372036854775807) : ∀ (d k : Nat) (i : Nat) (x : Int), i ≤ l.length → l.length - i = d → d < k → num_Lcm.l0 k most x false l (l.length : Int) (i : Int) = some (0, false) := by
  intro d
  induction d with
  | zero =>
    intro k i x hi hd hk
    obtain ⟨k, rfl⟩ : ∃ m, k = m + 1 := ⟨k - 1, by omega⟩
    simp only [num_Lcm.l0]
    rw [if_neg (by omega)]; first | done | rfl
  | succ d ih =>
    intro k i x hi hd hk
    obtain ⟨k, rfl⟩ : ∃ m, k = m + 1 := ⟨k - 1, by omega⟩
    simp only [num_Lcm.l0]
    rw [if_pos (by omega), if_pos (by omega), if_pos (by omega)]
    split
    · rfl
    · rw [w64 (by omega) (by omega)]
      exact ih k (i + 1) x (by omega) (by omega) (by omega)
theorem lcm_loop (most : Int) (l : List Int) (hm : most ≤ 9223372036854775807) (hl : ∀ x ∈ l, x ≤ 9223372036854775807) (hlen : l.length < 9223372036854775807) : ∀ (d k i n : Nat), i ≤ l.length → l.length - i = d → d + 9223372036854775810 < k → 0 < n → (n : Int) ≤ most →
    num_Lcm.l0 k most (n : Int) true l (l.length : Int) (i : Int) = some (lcmS most n (l.drop i)) := by
  intro d
  induction d with
  | zero =>
    intro k i n hi hd hk hn hnm
    obtain ⟨k, rfl⟩ : ∃ m, k = m + 1 := ⟨k - 1, by omega⟩
    simp only [num_Lcm.l0]
    rw [if_neg (by omega), List.drop_of_length_le (by omega)]
    unfold lcmS
    simp only [if_true]
    rw [if_pos ⟨by simp, hnm⟩]
    rfl
  | succ d ih =>
    intro k i n hi hd hk hn hnm
    obtain ⟨k, rfl⟩ : ∃ m, k = m + 1 := ⟨k - 1, by omega⟩
    have hx2 := hl _ (rd_mem l i (by omega))
    rw [drop_rd l i (by omega)]
    simp only [num_Lcm.l0]
    rw [if_pos (by omega), if_pos (by omega), if_pos (by omega)]
    generalize rd l (i : Int) = x at *
    by_cases h1 : x < 1
    · rw [if_pos h1, lcmS_low _ _ _ _ h1]
    · rw [if_neg h1]
      have ⟨g1, g2, g3, g4, g5, g6, g7, g8⟩ := gcd_div n x hn (by omega) hx2 (by omega)
      simp only [if_true]
      rw [gcd_is k _ _ (by omega) (by omega) (by omega), g1]
      simp only [Option.bind_some]
      rw [if_neg g2]
      obtain ⟨k, rfl⟩ : ∃ m, k = m + 1 := ⟨k - 1, by omega⟩
      rw [w64 (x := Int.tdiv x _) (by omega) (by omega), mul_is k _ _ (by omega) (by omega), g3]
      have hpos : 0 < Nat.lcm n x.natAbs := Nat.lcm_pos hn (by omega)
      simp only [Option.bind_some]
      rw [w64 (x := (i : Int) + 1) (by omega) (by omega)]
      by_cases hb : (Nat.lcm n x.natAbs : Int) ≤ 9223372036854775807
      · rw [held64_in (by omega) hb]
        simp only [if_true]
        by_cases hb2 : (Nat.lcm n x.natAbs : Int) ≤ most
        · rw [decide_eq_true hb2, lcmS_step _ _ _ _ (by omega)]
          exact ih (k + 1) (i + 1) _ (by omega) (by omega) (by omega) hpos hb2
        · rw [decide_eq_false hb2, lcmS_over _ _ _ _ hn (by omega)]
          exact lcm_lost most l hlen d (k + 1) (i + 1) _ (by omega) (by omega) (by omega)
      · rw [held64_out (by omega), lcmS_over _ _ _ _ hn (by omega)]
        exact lcm_lost most l hlen d (k + 1) (i + 1) _ (by omega) (by omega) (by omega)
theorem lcmS_none (most : Int) (l : List Int) (h : most < 1) : lcmS most 1 l = (0, false) := by
  unfold lcmS
  rw [if_neg]
  rintro ⟨h1, h2⟩
  have := lcmFrom_pos l 1 (by omega) h1
  omega
theorem lcm_is (k : Nat) (most : Int) (l : List Int) (hm : most ≤ 9223372036854775807) (hl : ∀ x ∈ l, x ≤ 9223372036854775807) (hlen : l.length < 9223372036854775807) (hk : l.length + 9223372036854775810 < k) :
    num_Lcm.f k most l = some (lcmS most 1 l) := by
  unfold num_Lcm.f
  by_cases h : most ≥ 1
  · rw [decide_eq_true h]
    have := lcm_loop most l hm hl hlen l.length k 0 1 (by omega) (by omega) (by omega) (by omega) (by omega)
    exact this
  · rw [decide_eq_false h, lcmS_none most l (by omega)]
    exact lcm_lost most l hlen l.length k 0 1 (by omega) (by omega) (by omega)
theorem lcm_any (most : Int) (A : Option Addr) (c : Nat) (l : List Int) (W : World) (hr : Kd.C (Kd.int .i64) W A l.length l) (hc : l.length ≤ c) (hm : most ≤ 9223372036854775807) (hl : ∀ x ∈ l, x ≤ 9223372036854775807) (hlen : l.length < 9223372036854775807) :
    Calls Try.prog 20 #[.int .i64 most, .slice A l.length c] W fun e w' => e = .returned (.tuple #[.int .i64 (lcmS most 1 l).1, .bool (lcmS most 1 l).2]) ∧ Below W.heap.size W w' :=
  num_Lcm.calls _ most A c l _ _ W hr hc (lcm_is (l.length + 9223372036854775811) most l hm hl hlen (by omega))

set_option maxHeartbeats 8000000
theorem kd_two (w : World) (h : Nat) (c0 : w.cell? ⟨h, 0, none⟩ = some (.int .i64 4)) (c1 : w.cell? ⟨h, 1, none⟩ = some (.int .i64 6)) : ReadsInt w .i64 (some ⟨h, 0, none⟩) [(4 : Int), 6].length [4, 6] := by
  refine ⟨rfl, by decide, fun _ => ⟨_, rfl, fun j hj => ?_⟩⟩
  match j, hj with
  | 0, _ => simpa [Addr.add] using c0
  | 1, _ => simpa [Addr.add] using c1
theorem lcm_two (most r : Int) (ok : Bool) (hm : most ≤ 9223372036854775807) (he : lcmS most 1 [4, 6] = (r, ok)) (w : World) (h : Nat) (c0 : w.cell? ⟨h, 0, none⟩ = some (.int .i64 4)) (c1 : w.cell? ⟨h, 1, none⟩ = some (.int .i64 6)) :
    Calls Try.prog 20 #[.int .i64 most, .slice (some ⟨h, 0, none⟩) 2 2] w fun e w' => e = .returned (.tuple #[.int .i64 r, .bool ok]) ∧ Below w.heap.size w w' := by
  have := lcm_any most (some ⟨h, 0, none⟩) 2 [4, 6] w (Kd.C_of_reads (d := (0 : Int)) (h1 := fun _ => rfl) (kd_two w h c0 c1)) (by decide) hm (by decide) (by decide)
  rw [he] at this
  exact this
set_option maxRecDepth 100000 in
theorem known_walk (W : World) : Calls Try.prog 10 #[] W fun e w' => e = .returned (.bool true) ∧ Below W.heap.size W w' := by
  have HB := Aside0.mk (Below.refl W.heap.size W)
  have A1 := Aside0.mk (fun W => add_any 9223372036854775807 1 W (by decide) (by decide))
  have A2 := Aside0.mk (fun W => sub_any (-1) (-9223372036854775808) W (by decide) (by decide))
  have A3 := Aside0.mk (fun W => sub_any 0 (-9223372036854775808) W (by decide) (by decide))
  have A4 := Aside0.mk (fun W => mul_any (-9223372036854775808) (-1) W (by decide) (by decide))
  have A5 := Aside0.mk (fun W => mul_any (-4294967296) 2147483648 W (by decide) (by decide))
  have A6 := Aside0.mk (fun W => up_any (-7) 1 2 W (by decide) (by decide) (by decide))
  have A7 := Aside0.mk (fun W => share_any 1 1 0 W (by decide) (by decide) (by decide))
  have A8 := Aside0.mk (fun W => share_any 9223372036854775807 9223372036854775807 9223372036854775807 W (by decide) (by decide) (by decide))
  have B1 := Aside0.mk (fun W => cmpmul_any 4611686018427387904 4 9223372036854775807 2 W (by decide) (by decide) (by decide) (by decide))
  have B2 := Aside0.mk (fun W => cmpmul_any (-9223372036854775808) 1 4611686018427387904 (-2) W (by decide) (by decide) (by decide) (by decide))
  have B3 := Aside0.mk (fun W => gcd_any (-9223372036854775808) 2 W (by decide) (by decide))
  have B4 := Aside0.mk (fun W => gcd_any 0 0 W (by decide) (by decide))
  have b5 : ∀ W, Calls Try.prog 20 #[.int .i64 1, .slice none 0 0] W fun e w' => e = .returned (.tuple #[.int .i64 (lcmS 1 1 []).1, .bool (lcmS 1 1 []).2]) ∧ Below W.heap.size W w' := fun W => lcm_any 1 none 0 [] W (Kd.C_of_reads (d := (0 : Int)) (h1 := fun _ => rfl) (ReadsInt.nil W .i64)) (by decide) (by decide) (by decide) (by decide)
  have B5 := Aside0.mk b5
  clear b5
  rw [show held64 (9223372036854775807 + 1) = (0, false) by decide +kernel] at A1
  rw [show held64 (-1 - -9223372036854775808) = (9223372036854775807, true) by decide +kernel] at A2
  rw [show held64 (0 - -9223372036854775808) = (0, false) by decide +kernel] at A3
  rw [show held64 (-9223372036854775808 * -1) = (0, false) by decide +kernel] at A4
  rw [show held64 (-4294967296 * 2147483648) = (-9223372036854775808, true) by decide +kernel] at A5
  rw [show upI (-7) 1 2 = (-3, true) by decide +kernel] at A6
  rw [show shareI 1 1 0 = (0, false) by decide +kernel] at A7
  rw [show shareI 9223372036854775807 9223372036854775807 9223372036854775807 = (9223372036854775807, true) by decide +kernel] at A8
  rw [show cmpI (4611686018427387904 * 4) (9223372036854775807 * 2) = 1 by decide +kernel] at B1
  rw [show cmpI (-9223372036854775808 * 1) (4611686018427387904 * -2) = 0 by decide +kernel] at B2
  rw [show gcdI (-9223372036854775808) 2 = 1 by decide +kernel] at B3
  rw [show gcdI 0 0 = 0 by decide +kernel] at B4
  rw [show lcmS 1 1 [] = (1, true) by decide +kernel] at B5
  have L1 := Aside0.mk (lcm_two 100 12 true (by decide) (by decide +kernel))
  have L2 := Aside0.mk (lcm_two 11 0 false (by decide) (by decide +kernel))
  go_enter Try.func10, Try.ntmps10
  go_wp2_with (first | (go_at_call 11; (with_reducible refine (awake_any _).mono ?_); rintro e w7 ⟨rfl, hb⟩; have n0_ := Aside0.mk (below_step (by repeat (first | (with_reducible first | exact HB.out | apply below_alloc | apply pw_below_drewN | apply below_drew1) | exact HB.out)) hb); clear HB; have HB := n0_; clear n0_ hb) | (go_at_call 15; (with_reducible refine (A1.out _).mono ?_); rintro e w7 ⟨rfl, hb⟩; have n0_ := Aside0.mk (below_step (by repeat (first | (with_reducible first | exact HB.out | apply below_alloc | apply pw_below_drewN | apply below_drew1) | exact HB.out)) hb); clear HB; have HB := n0_; clear n0_ hb) | (go_at_call 18; (with_reducible refine (A2.out _).mono ?_); rintro e w7 ⟨rfl, hb⟩; have n0_ := Aside0.mk (below_step (by repeat (first | (with_reducible first | exact HB.out | apply below_alloc | apply pw_below_drewN | apply below_drew1) | exact HB.out)) hb); clear HB; have HB := n0_; clear n0_ hb) | (go_at_call 18; (with_reducible refine (A3.out _).mono ?_); rintro e w7 ⟨rfl, hb⟩; have n0_ := Aside0.mk (below_step (by repeat (first | (with_reducible first | exact HB.out | apply below_alloc | apply pw_below_drewN | apply below_drew1) | exact HB.out)) hb); clear HB; have HB := n0_; clear n0_ hb) | (go_at_call 16; (with_reducible refine (A4.out _).mono ?_); rintro e w7 ⟨rfl, hb⟩; have n0_ := Aside0.mk (below_step (by repeat (first | (with_reducible first | exact HB.out | apply below_alloc | apply pw_below_drewN | apply below_drew1) | exact HB.out)) hb); clear HB; have HB := n0_; clear n0_ hb) | (go_at_call 16; (with_reducible refine (A5.out _).mono ?_); rintro e w7 ⟨rfl, hb⟩; have n0_ := Aside0.mk (below_step (by repeat (first | (with_reducible first | exact HB.out | apply below_alloc | apply pw_below_drewN | apply below_drew1) | exact HB.out)) hb); clear HB; have HB := n0_; clear n0_ hb) | (go_at_call 19; (with_reducible refine (A6.out _).mono ?_); rintro e w7 ⟨rfl, hb⟩; have n0_ := Aside0.mk (below_step (by repeat (first | (with_reducible first | exact HB.out | apply below_alloc | apply pw_below_drewN | apply below_drew1) | exact HB.out)) hb); clear HB; have HB := n0_; clear n0_ hb) | (go_at_call 17; (with_reducible refine (A7.out _).mono ?_); rintro e w7 ⟨rfl, hb⟩; have n0_ := Aside0.mk (below_step (by repeat (first | (with_reducible first | exact HB.out | apply below_alloc | apply pw_below_drewN | apply below_drew1) | exact HB.out)) hb); clear HB; have HB := n0_; clear n0_ hb) | (go_at_call 17; (with_reducible refine (A8.out _).mono ?_); rintro e w7 ⟨rfl, hb⟩; have n0_ := Aside0.mk (below_step (by repeat (first | (with_reducible first | exact HB.out | apply below_alloc | apply pw_below_drewN | apply below_drew1) | exact HB.out)) hb); clear HB; have HB := n0_; clear n0_ hb) | (go_at_call 12; (with_reducible refine (B1.out _).mono ?_); rintro e w7 ⟨rfl, hb⟩; have n0_ := Aside0.mk (below_step (by repeat (first | (with_reducible first | exact HB.out | apply below_alloc | apply pw_below_drewN | apply below_drew1) | exact HB.out)) hb); clear HB; have HB := n0_; clear n0_ hb) | (go_at_call 12; (with_reducible refine (B2.out _).mono ?_); rintro e w7 ⟨rfl, hb⟩; have n0_ := Aside0.mk (below_step (by repeat (first | (with_reducible first | exact HB.out | apply below_alloc | apply pw_below_drewN | apply below_drew1) | exact HB.out)) hb); clear HB; have HB := n0_; clear n0_ hb) | (go_at_call 14; (with_reducible refine (B3.out _).mono ?_); rintro e w7 ⟨rfl, hb⟩; have n0_ := Aside0.mk (below_step (by repeat (first | (with_reducible first | exact HB.out | apply below_alloc | apply pw_below_drewN | apply below_drew1) | exact HB.out)) hb); clear HB; have HB := n0_; clear n0_ hb) | (go_at_call 14; (with_reducible refine (B4.out _).mono ?_); rintro e w7 ⟨rfl, hb⟩; have n0_ := Aside0.mk (below_step (by repeat (first | (with_reducible first | exact HB.out | apply below_alloc | apply pw_below_drewN | apply below_drew1) | exact HB.out)) hb); clear HB; have HB := n0_; clear n0_ hb) | (go_at_call 20; (with_reducible refine (B5.out _).mono ?_); rintro e w7 ⟨rfl, hb⟩; have n0_ := Aside0.mk (below_step (by repeat (first | (with_reducible first | exact HB.out | apply below_alloc | apply pw_below_drewN | apply below_drew1) | exact HB.out)) hb); clear HB; have HB := n0_; clear n0_ hb) | (go_at_call 20; (with_reducible refine (L1.out _ _ (by simp [World.cell?_alloc_new]) (by simp [World.cell?_alloc_new])).mono ?_); rintro e w7 ⟨rfl, hb⟩; have n0_ := Aside0.mk (below_step (by repeat (first | (with_reducible first | exact HB.out | apply below_alloc | apply pw_below_drewN | apply below_drew1) | exact HB.out)) hb); clear HB; have HB := n0_; clear n0_ hb) | (go_at_call 20; (with_reducible refine (L2.out _ _ (by simp [World.cell?_alloc_new]) (by simp [World.cell?_alloc_new])).mono ?_); rintro e w7 ⟨rfl, hb⟩; have n0_ := Aside0.mk (below_step (by repeat (first | (with_reducible first | exact HB.out | apply below_alloc | apply pw_below_drewN | apply below_drew1) | exact HB.out)) hb); clear HB; have HB := n0_; clear n0_ hb))
  go_ret
  exact ⟨rfl, (by repeat (first | (with_reducible first | exact HB.out | apply below_alloc | apply pw_below_drewN | apply below_drew1) | exact HB.out))⟩
theorem own : ownKnob Try.prog.godebug = none := by kernel_rfl
theorem Try.laidOut : laidOutB Try.prog = true := by kernel_rfl
open Go.ChangeShapes Go.WideShapes Go.ChangeAt Go.RowKit
open Go.ChangeMaps (open_string shut_string)
set_option maxRecDepth 100000 in
theorem lifted (os : Os) (started : os.Started) (H : Type) (enc : TypeId × Value → H) :
    ReturnsInHanded {} Try.checked os 10 .any (Rows.numKnownSpec.pre6 enc Try.prog Try.f10 Rows.numKnownRow.domain false) (Rows.numKnownSpec.post enc Try.prog Try.f10 false true false false) := by
  refine returnsInHanded_of_change_sized (C := Try.checked) own started (by kernel_rfl) Try.func10
    (ChangeSpec.witness6 (enc := enc) (C := Try.checked) false ⟨#[], #[], []⟩ 8 (by kernel_rfl) (by kernel_rfl) (by kernel_rfl) (by kernel_rfl)) ?_
  intro W base args ds gs before hval0 hW hcnd hsz0 _
  have hsz : (DataW.weightsEach Try.prog (Try.f10.params.toList ++ Rows.numKnownSpec.plain.varTypes Try.prog) (ds ++ gs)).all (· ≤ reachBytes) = true := hsz0
  have hval : ∀ (j : Nat) t v, Try.f10.params[j]? = some t → args[j]? = some v → Value.okWide Try.prog W .any base t v := hval0
  have hW' := hW
  obtain ⟨p, q, hA0, hV, rfl, hfz, hnd⟩ := hW
  have hA : DataW.TrodAll enc Try.prog W 0 (fun _ => true) true Try.f10.params.toList args.toList ds p := hA0
  rw [Try.params10] at hA hval hsz
  obtain ⟨rfl, rfl, rfl⟩ := trodAll_none hA
  obtain ⟨rfl, rfl⟩ := trodVars_none hV
  clear hA0 hval0 hsz0 hsz
  refine (known_walk W).mono fun e W' ⟨he, bel⟩ => ?_
  subst he
  exact ⟨_, rfl, _, _, _, _, _, [], hW', trodAll_mk1 (shut_bool Try.underlying4 _), trodAll_mk0, rfl, bel.frame _, fun h => by cases h⟩
theorem over : Rows.numKnownRow.holds Try.pinned (OpenSpec.ofChange Rows.numKnownSpec) :=
  OpenClaim.holds_of_wide 10 Try.f10 rfl rfl rfl rfl rfl rfl rfl ⟨rfl, rfl, rfl, rfl, rfl⟩ rfl rfl rfl rfl rfl (by kernel_rfl) Try.func10 (by kernel_rfl)
    (of_decide_eq_true (by kernel_rfl)) (by unfold Func.isWrapper; first | (rw [if_pos (by decide +kernel)]; kernel_rfl) | (rw [if_neg (by decide +kernel)]; exact ⟨rfl, rfl⟩))
    (fun os started H enc _ => lifted os started H enc)
end Go.Proofs.Ytmoddlehcplbfaa.Pure
namespace Go.Proofs.Ytmoddlehcplbfaa
/-- The row, under a short name, for the claim. -/
theorem numKnown_holds : Rows.NumKnownSaid := Pure.over
end Go.Proofs.Ytmoddlehcplbfaa
#print axioms Go.Proofs.Ytmoddlehcplbfaa.numKnown_holds
namespace Go.Proofs.Ytmoddlehcplbfaa.Pure

end Go.Proofs.Ytmoddlehcplbfaa.Pure
