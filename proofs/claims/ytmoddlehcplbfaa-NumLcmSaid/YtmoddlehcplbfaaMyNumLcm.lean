/- Any numbers' least common one is as the document's own answer says, and all divide it: for every bound and every list of at most 12 64-bit numbers (of a longer one nothing is asked). -/
import Derived.Test.YtmoddlehcplbfaaPNumx
import Derived.Test.YtmoddlehcplbfaaNumKit
import Derived.Test.YtmoddlehcplbfaaRows
import Derived.WalkKit
import Derived.ProofKit
import Derived.OpenShut
import Derived.ShutString
import Derived.ChangeOld
import Derived.Below
import Derived.SizedLaws
import Derived.Carry
import Derived.Lib.SmallJoins
import Derived.Test.YtmoddlehcplbfaaWSized
namespace Go.Proofs.Ytmoddlehcplbfaa.Pure
open Go.RowKit Go.Proofs.Ytmoddlehcplbfaa.PNum Go.Proofs.YtmoddlehcplbfaaW.PrintWords Go.Proofs.YtmoddlehcplbfaaW.PrintLast Go.Proofs.YtmoddlehcplbfaaW.PrintMore 
set_option linter.unusedVariables false
set_option linter.unusedSimpArgs false

/-! The least number that all divide. -/
def lcmFrom : Nat → List Int → Nat
  | n, [] => n
  | n, x :: t => lcmFrom (Nat.lcm n x.natAbs) t
def lcmS (most : Int) (n : Nat) (l : List Int) : Int × Bool := if (∀ x ∈ l, 1 ≤ x) ∧ (lcmFrom n l : Int) ≤ most then ((lcmFrom n l : Int), true) else (0, false)
theorem lcmFrom_dvd : ∀ (l : List Int) (n : Nat), n ∣ lcmFrom n l
  | [], n => Nat.dvd_refl n
  | x :: t, n => Nat.dvd_trans (Nat.dvd_lcm_left n x.natAbs) (lcmFrom_dvd t _)
theorem lcmFrom_mem : ∀ (l : List Int) (n : Nat) (x : Int), x ∈ l → x.natAbs ∣ lcmFrom n l
  | y :: t, n, x, h => by
    rcases List.mem_cons.1 h with rfl | h
    · exact Nat.dvd_trans (Nat.dvd_lcm_right n x.natAbs) (lcmFrom_dvd t _)
    · exact lcmFrom_mem t _ x h
theorem lcmFrom_pos : ∀ (l : List Int) (n : Nat), 0 < n → (∀ x ∈ l, 1 ≤ x) → 0 < lcmFrom n l
  | [], n, h, _ => h
  | x :: t, n, h, hl => lcmFrom_pos t _ (Nat.lcm_pos h (by have := hl x (by simp); omega)) (fun y hy => hl y (by simp [hy]))
theorem lcmFrom_le (l : List Int) (n : Nat) (h : 0 < n) (hl : ∀ x ∈ l, 1 ≤ x) : n ≤ lcmFrom n l := Nat.le_of_dvd (lcmFrom_pos l n h hl) (lcmFrom_dvd l n)
theorem drop_rd (l : List Int) (i : Nat) (h : i < l.length) : l.drop i = rd l (i : Int) :: l.drop (i + 1) := by
  rw [List.drop_eq_getElem_cons h]
  congr 1
  unfold rd
  rw [show ((i : Int)).toNat = i by omega, List.getD_eq_getElem?_getD, List.getElem?_eq_getElem h]; rfl
theorem rd_mem (l : List Int) (i : Nat) (h : i < l.length) : rd l (i : Int) ∈ l := by
  unfold rd
  rw [show ((i : Int)).toNat = i by omega, List.getD_eq_getElem?_getD, List.getElem?_eq_getElem h]
  exact List.getElem_mem h
theorem lcmS_over (most : Int) (n : Nat) (x : Int) (t : List Int) (hn : 0 < n) (h : most < (Nat.lcm n x.natAbs : Int)) : lcmS most n (x :: t) = (0, false) := by
  unfold lcmS
  rw [if_neg]
  rintro ⟨h1, h2⟩
  have := lcmFrom_le t (Nat.lcm n x.natAbs) (Nat.lcm_pos hn (by have := h1 x (by simp); omega)) (fun y hy => h1 y (by simp [hy]))
  simp only [lcmFrom] at h2
  omega
theorem lcmS_low (most : Int) (n : Nat) (x : Int) (t : List Int) (h : x < 1) : lcmS most n (x :: t) = (0, false) := by
  unfold lcmS
  rw [if_neg]
  rintro ⟨h1, h2⟩
  have := h1 x (by simp); omega
theorem lcmS_step (most : Int) (n : Nat) (x : Int) (t : List Int) (h : 1 ≤ x) : lcmS most n (x :: t) = lcmS most (Nat.lcm n x.natAbs) t := by
  unfold lcmS
  simp only [lcmFrom]
  have : (∀ y ∈ x :: t, 1 ≤ y) ↔ ∀ y ∈ t, 1 ≤ y := ⟨fun g y hy => g y (by simp [hy]), fun g y hy => by rcases List.mem_cons.1 hy with rfl | hy; exact h; exact g y hy⟩
  simp only [this]
theorem gcd_div (n : Nat) (x : Int) (hn : 0 < n) (hx : 1 ≤ x) (hx2 : x ≤ 9223372036854775807) (hn2 : n ≤ 9223372036854775807) :
    gcdI (n : Int) x = (Nat.gcd n x.natAbs : Int) ∧ (Nat.gcd n x.natAbs : Int) ≠ 0 ∧ (n : Int) * (Int.tdiv x (Nat.gcd n x.natAbs : Int)) = (Nat.lcm n x.natAbs : Int) ∧ (Int.tdiv (n : Int) (Nat.gcd n x.natAbs : Int)) * x = (Nat.lcm n x.natAbs : Int) ∧
    0 ≤ Int.tdiv x (Nat.gcd n x.natAbs : Int) ∧ Int.tdiv x (Nat.gcd n x.natAbs : Int) ≤ x ∧ 0 ≤ Int.tdiv (n : Int) (Nat.gcd n x.natAbs : Int) ∧ Int.tdiv (n : Int) (Nat.gcd n x.natAbs : Int) ≤ n := by
  obtain ⟨m, rfl⟩ := Int.eq_ofNat_of_zero_le (show 0 ≤ x by omega)
  have hg : 0 < Nat.gcd n m := Nat.gcd_pos_of_pos_left _ hn
  have e1 : Int.tdiv (m : Int) (Nat.gcd n m : Int) = ((m / Nat.gcd n m : Nat) : Int) := by rw [Int.tdiv_eq_ediv_of_nonneg (by omega)]; simp
  have e2 : Int.tdiv (n : Int) (Nat.gcd n m : Int) = ((n / Nat.gcd n m : Nat) : Int) := by rw [Int.tdiv_eq_ediv_of_nonneg (by omega)]; simp
  have d1 : Nat.gcd n m ∣ m := Nat.gcd_dvd_right n m
  have d2 : Nat.gcd n m ∣ n := Nat.gcd_dvd_left n m
  have l1 : m / Nat.gcd n m ≤ m := Nat.div_le_self _ _
  have l2 : n / Nat.gcd n m ≤ n := Nat.div_le_self _ _
  simp only [Int.natAbs_natCast]
  rw [e1, e2]
  refine ⟨?_, by omega, ?_, ?_, Int.natCast_nonneg _, Int.ofNat_le.2 l1, Int.natCast_nonneg _, Int.ofNat_le.2 l2⟩
  · unfold gcdI; rw [if_neg (by omega)]; simp
  · rw [← Int.natCast_mul]; congr 1
    rw [Nat.lcm, Nat.mul_div_assoc n d1]
  · rw [← Int.natCast_mul]; congr 1
    rw [Nat.lcm, Nat.mul_comm n m, Nat.mul_div_assoc m d2, Nat.mul_comm]

theorem lcm_lost (most : Int) (l : List Int) (hlen : l.length < 9223372036854775807) : ∀ (d k : Nat) (i : Nat) (x : Int), i ≤ l.length → l.length - i = d → d < k → num_Lcm.l0 k most x false l (l.length : Int) (i : Int) = some (0, false) := by
  intro d
  induction d with
  | zero =>
    intro k i x hi hd hk
    obtain ⟨k, rfl⟩ : ∃ m, k = m + 1 := ⟨k - 1, by omega⟩
    simp only [num_Lcm.l0]
    rw [if_neg (by omega)]; first | done | rfl
  | succ d ih =>
    intro k i x hi hd hk
    obtain ⟨k, rfl⟩ : ∃ m, k = m + 1 := ⟨k - 1, by omega⟩
    simp only [num_Lcm.l0]
    rw [if_pos (by omega), if_pos (by omega), if_pos (by omega)]
    split
    · rfl
    · rw [w64 (by omega) (by omega)]
      exact ih k (i + 1) x (by omega) (by omega) (by omega)
theorem lcm_loop (most : Int) (l : List Int) (hm : most ≤ 9223372036854775807) (hl : ∀ x ∈ l, x ≤ 9223372036854775807) (hlen : l.length < 9223372036854775807) : ∀ (d k i n : Nat), i ≤ l.length → l.length - i = d → d + 9223372036854775810 < k → 0 < n → (n : Int) ≤ most →
    num_Lcm.l0 k most (n : Int) true l (l.length : Int) (i : Int) = some (lcmS most n (l.drop i)) := by
  intro d
  induction d with
  | zero =>
    intro k i n hi hd hk hn hnm
    obtain ⟨k, rfl⟩ : ∃ m, k = m + 1 := ⟨k - 1, by omega⟩
    simp only [num_Lcm.l0]
    rw [if_neg (by omega), List.drop_of_length_le (by omega)]
    unfold lcmS
    simp only [if_true]
    rw [if_pos ⟨by simp, hnm⟩]
    rfl
  | succ d ih =>
    intro k i n hi hd hk hn hnm
    obtain ⟨k, rfl⟩ : ∃ m, k = m + 1 := ⟨k - 1, by omega⟩
    have hx2 := hl _ (rd_mem l i (by omega))
    rw [drop_rd l i (by omega)]
    simp only [num_Lcm.l0]
    rw [if_pos (by omega), if_pos (by omega), if_pos (by omega)]
    generalize rd l (i : Int) = x at *
    by_cases h1 : x < 1
    · rw [if_pos h1, lcmS_low _ _ _ _ h1]
    · rw [if_neg h1]
      have ⟨g1, g2, g3, g4, g5, g6, g7, g8⟩ := gcd_div n x hn (by omega) hx2 (by omega)
      simp only [if_true]
      rw [gcd_is k _ _ (by omega) (by omega) (by omega), g1]
      simp only [Option.bind_some]
      rw [if_neg g2]
      obtain ⟨k, rfl⟩ : ∃ m, k = m + 1 := ⟨k - 1, by omega⟩
      rw [w64 (x := Int.tdiv x _) (by omega) (by omega), mul_is k _ _ (by omega) (by omega), g3]
      have hpos : 0 < Nat.lcm n x.natAbs := Nat.lcm_pos hn (by omega)
      simp only [Option.bind_some]
      rw [w64 (x := (i : Int) + 1) (by omega) (by omega)]
      by_cases hb : (Nat.lcm n x.natAbs : Int) ≤ 9223372036854775807
      · rw [held64_in (by omega) hb]
        simp only [if_true]
        by_cases hb2 : (Nat.lcm n x.natAbs : Int) ≤ most
        · rw [decide_eq_true hb2, lcmS_step _ _ _ _ (by omega)]
          exact ih (k + 1) (i + 1) _ (by omega) (by omega) (by omega) hpos hb2
        · rw [decide_eq_false hb2, lcmS_over _ _ _ _ hn (by omega)]
          exact lcm_lost most l hlen d (k + 1) (i + 1) _ (by omega) (by omega) (by omega)
      · rw [held64_out (by omega), lcmS_over _ _ _ _ hn (by omega)]
        exact lcm_lost most l hlen d (k + 1) (i + 1) _ (by omega) (by omega) (by omega)
theorem lcmS_none (most : Int) (l : List Int) (h : most < 1) : lcmS most 1 l = (0, false) := by
  unfold lcmS
  rw [if_neg]
  rintro ⟨h1, h2⟩
  have := lcmFrom_pos l 1 (by omega) h1
  omega
theorem lcm_is (k : Nat) (most : Int) (l : List Int) (hm : most ≤ 9223372036854775807) (hl : ∀ x ∈ l, x ≤ 9223372036854775807) (hlen : l.length < 9223372036854775807) (hk : l.length + 9223372036854775810 < k) :
    num_Lcm.f k most l = some (lcmS most 1 l) := by
  unfold num_Lcm.f
  by_cases h : most ≥ 1
  · rw [decide_eq_true h]
    have := lcm_loop most l hm hl hlen l.length k 0 1 (by omega) (by omega) (by omega) (by omega) (by omega)
    exact this
  · rw [decide_eq_false h, lcmS_none most l (by omega)]
    exact lcm_lost most l hlen l.length k 0 1 (by omega) (by omega) (by omega)
theorem lcm_any (most : Int) (A : Option Addr) (c : Nat) (l : List Int) (W : World) (hr : Kd.C (Kd.int .i64) W A l.length l) (hc : l.length ≤ c) (hm : most ≤ 9223372036854775807) (hl : ∀ x ∈ l, x ≤ 9223372036854775807) (hlen : l.length < 9223372036854775807) :
    Calls Try.prog 20 #[.int .i64 most, .slice A l.length c] W fun e w' => e = .returned (.tuple #[.int .i64 (lcmS most 1 l).1, .bool (lcmS most 1 l).2]) ∧ Below W.heap.size W w' :=
  num_Lcm.calls _ most A c l _ _ W hr hc (lcm_is (l.length + 9223372036854775811) most l hm hl hlen (by omega))

theorem rlcm_loop (most : Int) (l : List Int) (hm : most ≤ 9223372036854775807) (hl : ∀ x ∈ l, x ≤ 9223372036854775807) (hlen : l.length < 9223372036854775807) : ∀ (d k i n : Nat), i ≤ l.length → l.length - i = d → d + 9223372036854775810 < k → 0 < n → n ≤ 9223372036854775807 →
    tocsinref1_Lcm.l0 k most l (n : Int) (i : Int) = some (lcmS most n (l.drop i)) := by
  intro d
  induction d with
  | zero =>
    intro k i n hi hd hk hn hn2
    obtain ⟨k, rfl⟩ : ∃ m, k = m + 1 := ⟨k - 1, by omega⟩
    simp only [tocsinref1_Lcm.l0]
    rw [if_neg (by omega), List.drop_of_length_le (by omega)]
    unfold lcmS
    by_cases h : (n : Int) > most
    · rw [if_pos h, if_neg (by simp only [lcmFrom]; omega)]
    · rw [if_neg h, if_pos ⟨by simp, by simp only [lcmFrom]; omega⟩]; rfl
  | succ d ih =>
    intro k i n hi hd hk hn hn2
    obtain ⟨k, rfl⟩ : ∃ m, k = m + 1 := ⟨k - 1, by omega⟩
    have hx2 := hl _ (rd_mem l i (by omega))
    rw [drop_rd l i (by omega)]
    simp only [tocsinref1_Lcm.l0]
    rw [if_pos (by omega), if_pos (by omega)]
    generalize rd l (i : Int) = x at *
    by_cases h1 : x < 1
    · rw [if_pos h1, lcmS_low _ _ _ _ h1]
    · rw [if_neg h1]
      have ⟨g1, g2, g3, g4, g5, g6, g7, g8⟩ := gcd_div n x hn (by omega) hx2 (by omega)
      rw [rgcd_is k _ _ (by omega) (by omega) (by omega), g1]
      simp only [Option.bind_some]
      rw [if_neg g2]
      obtain ⟨k, rfl⟩ : ∃ m, k = m + 1 := ⟨k - 1, by omega⟩
      rw [w64 (x := Int.tdiv (n : Int) _) (by omega) (by omega), rmulh_is k _ _ (by omega) (by omega), g4]
      have hpos : 0 < Nat.lcm n x.natAbs := Nat.lcm_pos hn (by omega)
      simp only [Option.bind_some]
      rw [w64 (x := (i : Int) + 1) (by omega) (by omega)]
      by_cases hb : (Nat.lcm n x.natAbs : Int) ≤ 9223372036854775807
      · rw [held64_in (by omega) hb, lcmS_step _ _ _ _ (by omega)]
        simp only [if_true]
        exact ih (k + 1) (i + 1) _ (by omega) (by omega) (by omega) hpos (by omega)
      · rw [held64_out (by omega), lcmS_over _ _ _ _ hn (by omega)]; rfl
theorem rlcm_is (k : Nat) (most : Int) (l : List Int) (hm : most ≤ 9223372036854775807) (hl : ∀ x ∈ l, x ≤ 9223372036854775807) (hlen : l.length < 9223372036854775807) (hk : l.length + 9223372036854775810 < k) :
    tocsinref1_Lcm.f k most l = some (lcmS most 1 l) := by
  unfold tocsinref1_Lcm.f
  have := rlcm_loop most l hm hl hlen l.length k 0 1 (by omega) (by omega) (by omega) (by omega) (by omega)
  exact this
theorem rlcm_any (most : Int) (A : Option Addr) (c : Nat) (l : List Int) (W : World) (hr : Kd.C (Kd.int .i64) W A l.length l) (hc : l.length ≤ c) (hm : most ≤ 9223372036854775807) (hl : ∀ x ∈ l, x ≤ 9223372036854775807) (hlen : l.length < 9223372036854775807) :
    Calls Try.prog 21 #[.int .i64 most, .slice A l.length c] W fun e w' => e = .returned (.tuple #[.int .i64 (lcmS most 1 l).1, .bool (lcmS most 1 l).2]) ∧ Below W.heap.size W w' :=
  tocsinref1_Lcm.calls _ most A c l _ _ W hr hc (rlcm_is (l.length + 9223372036854775811) most l hm hl hlen (by omega))

set_option maxHeartbeats 4000000
theorem lcm_out (most : Int) (A : Option Addr) (c : Nat) (l : List Int) (W : World) (h : 12 < l.length) (hlen : l.length ≤ 9223372036854775807) :
    Calls Try.prog 7 #[.int .i64 most, .slice A l.length c] W fun e w' => e = .returned (.bool true) ∧ Below W.heap.size W w' := by
  have HB := Aside0.mk (Below.refl W.heap.size W)
  go_enter Try.func7, Try.ntmps7
  go_wp2_with (first | (go_at_call 11; (with_reducible refine (awake_any _).mono ?_); rintro e w7 ⟨rfl, hb⟩; have n0_ := Aside0.mk (below_step (by repeat (first | (with_reducible first | exact HB.out | apply below_alloc | apply pw_below_drewN | apply below_drew1) | exact HB.out)) hb); clear HB; have HB := n0_; clear n0_ hb))
  go_ret
  exact ⟨rfl, (by repeat (first | (with_reducible first | exact HB.out | apply below_alloc | apply pw_below_drewN | apply below_drew1) | exact HB.out))⟩
theorem lcm_false (most : Int) (A : Option Addr) (c : Nat) (l : List Int) (r : Int) (W : World) (h : l.length ≤ 12)
    (h1 : ∀ w, Below W.heap.size W w → Calls Try.prog 20 #[.int .i64 most, .slice A l.length c] w fun e w' => e = .returned (.tuple #[.int .i64 r, .bool false]) ∧ Below w.heap.size w w')
    (h2 : ∀ w, Below W.heap.size W w → Calls Try.prog 21 #[.int .i64 most, .slice A l.length c] w fun e w' => e = .returned (.tuple #[.int .i64 r, .bool false]) ∧ Below w.heap.size w w') :
    Calls Try.prog 7 #[.int .i64 most, .slice A l.length c] W fun e w' => e = .returned (.bool true) ∧ Below W.heap.size W w' := by
  have HB := Aside0.mk (Below.refl W.heap.size W)
  have H1 := Aside0.mk h1; have H2 := Aside0.mk h2
  clear h1 h2
  go_enter Try.func7, Try.ntmps7
  go_wp2_with (first | (go_at_call 11; (with_reducible refine (awake_any _).mono ?_); rintro e w7 ⟨rfl, hb⟩; have n0_ := Aside0.mk (below_step (by repeat (first | (with_reducible first | exact HB.out | apply below_alloc | apply pw_below_drewN | apply below_drew1) | exact HB.out)) hb); clear HB; have HB := n0_; clear n0_ hb) | (go_at_call 20; (with_reducible refine (H1.out _ HB.out).mono ?_); rintro e w7 ⟨rfl, hb⟩; have n0_ := Aside0.mk (below_step (by repeat (first | (with_reducible first | exact HB.out | apply below_alloc | apply pw_below_drewN | apply below_drew1) | exact HB.out)) hb); clear HB; have HB := n0_; clear n0_ hb) | (go_at_call 21; (with_reducible refine (H2.out _ HB.out).mono ?_); rintro e w7 ⟨rfl, hb⟩; have n0_ := Aside0.mk (below_step (by repeat (first | (with_reducible first | exact HB.out | apply below_alloc | apply pw_below_drewN | apply below_drew1) | exact HB.out)) hb); clear HB; have HB := n0_; clear n0_ hb))
  go_loop [9] (fun i => i = .int .i64 0) (fun _ => 0)
  case atStart => rfl
  case round =>
    subst hrel
    go_wp2
    go_ret
    exact ⟨rfl, (by repeat (first | (with_reducible first | exact HB.out | apply below_alloc | apply pw_below_drewN | apply below_drew1) | exact HB.out))⟩
theorem cell_at {W w : World} {A : Option Addr} {l : List Int} (hr : ReadsInt W .i64 A l.length l) (hb : Below W.heap.size W w) (i : Nat) (hi : i < l.length) : ∃ a, A = some a ∧ w.cell? (a.add i) = some (.int .i64 (rd l (i : Int))) := by
  have := (hr.below hb).at_ (i : Int) (by omega) (by omega)
  simpa using this
theorem lcm_true (most : Int) (A : Option Addr) (c : Nat) (l : List Int) (r : Int) (W : World) (h : l.length ≤ 12) (hc : l.length ≤ c) (hr : ReadsInt W .i64 A l.length l)
    (hn : 1 ≤ r) (hn2 : r ≤ 9223372036854775807) (hd : ∀ i, i < l.length → 1 ≤ rd l (i : Int) ∧ (r % (rd l (i : Int)) != 0) = false)
    (h1 : ∀ w, Below W.heap.size W w → Calls Try.prog 20 #[.int .i64 most, .slice A l.length c] w fun e w' => e = .returned (.tuple #[.int .i64 r, .bool true]) ∧ Below w.heap.size w w')
    (h2 : ∀ w, Below W.heap.size W w → Calls Try.prog 21 #[.int .i64 most, .slice A l.length c] w fun e w' => e = .returned (.tuple #[.int .i64 r, .bool true]) ∧ Below w.heap.size w w') :
    Calls Try.prog 7 #[.int .i64 most, .slice A l.length c] W fun e w' => e = .returned (.bool true) ∧ Below W.heap.size W w' := by
  have HB := Aside0.mk (Below.refl W.heap.size W)
  have H1 := Aside0.mk h1; have H2 := Aside0.mk h2; have HR := Aside0.mk hr; have HD := Aside0.mk hd
  clear h1 h2 hr hd
  go_enter Try.func7, Try.ntmps7
  go_wp2_with (first | (go_at_call 11; (with_reducible refine (awake_any _).mono ?_); rintro e w7 ⟨rfl, hb⟩; have n0_ := Aside0.mk (below_step (by repeat (first | (with_reducible first | exact HB.out | apply below_alloc | apply pw_below_drewN | apply below_drew1) | exact HB.out)) hb); clear HB; have HB := n0_; clear n0_ hb) | (go_at_call 20; (with_reducible refine (H1.out _ HB.out).mono ?_); rintro e w7 ⟨rfl, hb⟩; have n0_ := Aside0.mk (below_step (by repeat (first | (with_reducible first | exact HB.out | apply below_alloc | apply pw_below_drewN | apply below_drew1) | exact HB.out)) hb); clear HB; have HB := n0_; clear n0_ hb) | (go_at_call 21; (with_reducible refine (H2.out _ HB.out).mono ?_); rintro e w7 ⟨rfl, hb⟩; have n0_ := Aside0.mk (below_step (by repeat (first | (with_reducible first | exact HB.out | apply below_alloc | apply pw_below_drewN | apply below_drew1) | exact HB.out)) hb); clear HB; have HB := n0_; clear n0_ hb))
  go_loop [9] (fun i => ∃ k : Nat, k ≤ l.length ∧ i = .int .i64 k) (fun i => l.length - (intOf i).toNat)
  case atStart => exact ⟨0, by omega, rfl⟩
  case round =>
    obtain ⟨k, hk, rfl⟩ := hrel
    by_cases hlt : k < l.length
    · obtain ⟨a, rfl, hcell⟩ := cell_at HR.out HB.out k hlt
      have ⟨d1, d2⟩ := HD.out k hlt
      generalize rd l (k : Int) = x at *
      have hx0 : (x == 0) = false := beq_eq_false_iff_ne.2 (by omega)
      go_wp2
      exact ⟨⟨k + 1, by omega, by go_num⟩, by simp [intOf]; omega⟩
    · go_wp2
      go_ret
      exact ⟨rfl, (by repeat (first | (with_reducible first | exact HB.out | apply below_alloc | apply pw_below_drewN | apply below_drew1) | exact HB.out))⟩
theorem kdc {W : World} {A : Option Addr} {l : List Int} (hr : ReadsInt W .i64 A l.length l) {w : World} (hb : Below W.heap.size W w) : Kd.C (Kd.int .i64) w A l.length l := Kd.C_of_reads (d := (0 : Int)) (h1 := fun _ => rfl) (hr.below hb)
theorem lcm_walk (most : Int) (A : Option Addr) (c : Nat) (l : List Int) (W : World) (hr : ReadsInt W .i64 A l.length l) (hc : l.length ≤ c) (hlen : l.length ≤ 9223372036854775807) (hl : ∀ x ∈ l, (Lit.int .i64 x).wf = true) (hm : most ≤ 9223372036854775807) :
    Calls Try.prog 7 #[.int .i64 most, .slice A l.length c] W fun e w' => e = .returned (.bool true) ∧ Below W.heap.size W w' := by
  by_cases h : 12 < l.length
  · exact lcm_out most A c l W h hlen
  · have hl2 : ∀ x ∈ l, x ≤ 9223372036854775807 := fun x hx => (wf_i64 (hl x hx)).2
    have h1 := fun w (hb : Below W.heap.size W w) => lcm_any most A c l w (kdc hr hb) hc hm hl2 (by omega)
    have h2 := fun w (hb : Below W.heap.size W w) => rlcm_any most A c l w (kdc hr hb) hc hm hl2 (by omega)
    by_cases g : (∀ x ∈ l, 1 ≤ x) ∧ (lcmFrom 1 l : Int) ≤ most
    · have e : lcmS most 1 l = ((lcmFrom 1 l : Int), true) := by unfold lcmS; rw [if_pos g]
      rw [e] at h1 h2
      have hp := lcmFrom_pos l 1 (by omega) g.1
      refine lcm_true most A c l _ W (by omega) hc hr (by omega) (by omega) (fun i hi => ?_) h1 h2
      have hm := rd_mem l i hi
      refine ⟨g.1 _ hm, ?_⟩
      rw [bne_eq_false_iff_eq]
      exact Int.emod_eq_zero_of_dvd (Int.ofNat_dvd_right.2 (lcmFrom_mem l 1 _ hm))
    · have e : lcmS most 1 l = (0, false) := by unfold lcmS; rw [if_neg g]
      rw [e] at h1 h2
      exact lcm_false most A c l 0 W (by omega) h1 h2
def IsRow (k : IntKind) (w : World) (a : Option Addr) (len cap : Nat) (zs : List Int) : Prop :=
  (a = none ∧ len = 0 ∧ cap = 0 ∧ zs = []) ∨
  ∃ x, a = some x ∧ len ≤ cap ∧ cap ≤ maxLen ∧ zs.length = cap ∧ (∀ i, i < zs.length → w.cell? (x.add i) = some (.int k (zs.getD i 0))) ∧ ∀ n ∈ zs, (Lit.int k n).wf = true
theorem own : ownKnob Try.prog.godebug = none := by kernel_rfl
theorem Try.laidOut : laidOutB Try.prog = true := by kernel_rfl
open Go.ChangeShapes Go.WideShapes Go.ChangeAt Go.RowKit
open Go.ChangeMaps (open_string shut_string)
set_option maxRecDepth 100000 in
theorem lifted (os : Os) (started : os.Started) (H : Type) (enc : TypeId × Value → H) :
    ReturnsInHanded {} Try.checked os 7 .any (Rows.numLcmSpec.pre6 enc Try.prog Try.f7 Rows.numLcmRow.domain false) (Rows.numLcmSpec.post enc Try.prog Try.f7 false true false false) := by
  refine returnsInHanded_of_change_sized (C := Try.checked) own started (by kernel_rfl) Try.func7
    (ChangeSpec.witness6 (enc := enc) (C := Try.checked) false ⟨#[], #[.int .i64 0, .slice none 0 0], []⟩ 8 (by kernel_rfl) (by kernel_rfl) (by kernel_rfl) (by kernel_rfl)) ?_
  intro W base args ds gs before hval0 hW hcnd hsz0 _
  have hsz : (DataW.weightsEach Try.prog (Try.f7.params.toList ++ Rows.numLcmSpec.plain.varTypes Try.prog) (ds ++ gs)).all (· ≤ reachBytes) = true := hsz0
  have hval : ∀ (j : Nat) t v, Try.f7.params[j]? = some t → args[j]? = some v → Value.okWide Try.prog W .any base t v := hval0
  have hW' := hW
  obtain ⟨p, q, hA0, hV, rfl, hfz, hnd⟩ := hW
  have hA : DataW.TrodAll enc Try.prog W 0 (fun _ => true) true Try.f7.params.toList args.toList ds p := hA0
  rw [Try.params7] at hA hval hsz
  obtain ⟨v0, vs0, d0, ds0, p0, q0, hargs, rfl, rfl, h0, r0⟩ := trodAll_cons hA
  obtain ⟨v1, vs1, d1, ds1, p1, q1, rfl, rfl, rfl, h1, r1⟩ := trodAll_cons r0
  obtain ⟨rfl, rfl, rfl⟩ := trodAll_nil r1
  obtain rfl : args = #[v0, v1] := by cases args; simp_all
  obtain ⟨rfl, rfl⟩ := trodVars_none hV
  have k0 := h0
  have k1 := h1
  have lt0 : ∀ x ∈ p0, x.block < W.heap.size := by obtain ⟨m, hm⟩ := k0; exact DataW.trod_lt m _ _ _ hm
  have lt1 : ∀ x ∈ p1, x.block < W.heap.size := by obtain ⟨m, hm⟩ := k1; exact DataW.trod_lt m _ _ _ hm
  obtain ⟨a0, rfl, rfl, rfl, w0⟩ := open_int Try.underlying2 (hval 0 2 v0 rfl rfl) h0
  obtain ⟨a1, len1, cap1, rfl⟩ := okWide_slice Try.underlying31 (hval 1 31 v1 rfl rfl)
  obtain ⟨z1, w1⟩ : ∃ zs, IsRow .i64 W a1 len1 cap1 zs := by
    obtain ⟨fuel, hf⟩ := h1
    rcases open_ints Try.underlying31 Try.underlying2 (by kernel_rfl) hf with ⟨hcs, _⟩ | ⟨x, l, c, zs, hcs, _, hl, hm, hz, _, hcell, hwz⟩
    · simp [Value.cells] at hcs
      obtain ⟨rfl, rfl, rfl⟩ := hcs
      exact ⟨[], .inl ⟨rfl, rfl, rfl, rfl⟩⟩
    · simp [Value.cells] at hcs
      obtain ⟨rfl, rfl, rfl⟩ := hcs
      exact ⟨zs, .inr ⟨_, rfl, hl, hm, by simpa using hz, hcell, hwz⟩⟩
  have y1 : len1 * 8 ≤ 140737488351232 := sized_ints hsz (j := 1) (t := 31) rfl rfl Try.underlying31 Try.underlying2 (by kernel_rfl) (by kernel_rfl) h1
  obtain ⟨l1, rfl, hr1, hm1, hw1, hc1⟩ := ReadsInt.ofRowC w1
  clear hA0 hval0 hsz0 hsz
  refine (lcm_walk a0 a1 cap1 l1 W hr1 hc1 (by unfold maxLen at hm1; exact hm1) hw1 (wf_i64 w0).2).mono fun e W' ⟨he, bel⟩ => ?_
  subst he
  exact ⟨_, rfl, _, _, _, _, _, [], hW', trodAll_mk1 (shut_bool Try.underlying4 _), (trodAll_cons_mk (Below.trod Try.laidOut (by kernel_rfl) (of_decide_eq_true (by kernel_rfl)) k0 bel lt0) (trodAll_cons_mk (Below.trod Try.laidOut (by kernel_rfl) (of_decide_eq_true (by kernel_rfl)) k1 bel lt1) trodAll_mk0)), rfl, bel.frame _, fun h => by cases h⟩
theorem over : Rows.numLcmRow.holds Try.pinned (OpenSpec.ofChange Rows.numLcmSpec) :=
  OpenClaim.holds_of_wide 7 Try.f7 rfl rfl rfl rfl rfl rfl rfl ⟨rfl, rfl, rfl, rfl, rfl⟩ rfl rfl rfl rfl rfl (by kernel_rfl) Try.func7 (by kernel_rfl)
    (of_decide_eq_true (by kernel_rfl)) (by unfold Func.isWrapper; first | (rw [if_pos (by decide +kernel)]; kernel_rfl) | (rw [if_neg (by decide +kernel)]; exact ⟨rfl, rfl⟩))
    (fun os started H enc _ => lifted os started H enc)
end Go.Proofs.Ytmoddlehcplbfaa.Pure
namespace Go.Proofs.Ytmoddlehcplbfaa
/-- The row, under a short name, for the claim. -/
theorem numLcm_holds : Rows.NumLcmSaid := Pure.over
end Go.Proofs.Ytmoddlehcplbfaa
#print axioms Go.Proofs.Ytmoddlehcplbfaa.numLcm_holds
namespace Go.Proofs.Ytmoddlehcplbfaa.Pure

end Go.Proofs.Ytmoddlehcplbfaa.Pure
