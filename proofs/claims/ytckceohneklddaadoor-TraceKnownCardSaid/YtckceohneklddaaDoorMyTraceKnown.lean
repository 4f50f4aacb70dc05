/- tocsinlaw9.TraceKnown, over the listed tables. -/
import Derived.Test.YtckceohneklddaaDoorPTrx5
import Derived.PinnedBridge
import Derived.Lib.LaidU8T
import Derived.Lib.LaidRTab
import Derived.Test.YtckceohneklddaaDoorCards
import Derived.Test.YtckceohneklddaaDoorTie
import Derived.LaidMore
import Derived.Stop.Joined
import Derived.SevenTiedAt
import Derived.Lib.LaidTab
import Derived.Lay
import Derived.LaidOnce
import Derived.Test.YtckceohneklddaaDoorRows
import Derived.WalkKit
import Derived.ProofKit
import Derived.OpenShut
import Derived.ShutString
import Derived.ChangeOld
import Derived.Below
import Derived.SizedLaws
import Derived.Carry
import Derived.Lib.SmallJoins
import Derived.Test.YtckceohneklddaaDoorWSized
namespace Go.Proofs.YtckceohneklddaaDoor.Pure
open Go.RowKit Go.Proofs.YtckceohneklddaaDoor.PTr Go.Proofs.YtckceohneklddaaDoorW.PrintWords Go.Proofs.YtckceohneklddaaDoorW.PrintLast Go.Proofs.YtckceohneklddaaDoorW.PrintMore Go.Proofs.YtckceohneklddaaDoor.PTr Go.Shelf Go.Lib
set_option linter.unusedVariables false
set_option linter.unusedSimpArgs false


def twoL : List S44 := [(⟨(⟨#[97]⟩ : ByteArray), 0, 4, 2, 2, 5, 0, false⟩ : S44), (⟨(⟨#[98]⟩ : ByteArray), 1, 5, 1, 3, 7, 1, false⟩ : S44)]
theorem R_raw (W : World) (xs : List Int) (hl : xs.length ≤ maxLen) : Kd.R (Kd.int .i64) 3 (W.alloc (.cells (xs.map (Value.int .i64)).toArray 3)) W.heap.size (fun _ => True) (.slice (some ⟨W.heap.size, 0, none⟩) xs.length xs.length) xs := by
  refine ⟨fun _ _ => trivial, xs.map (Value.int .i64), ⟨by show _ = xs.length * 1; simp, Or.inr ⟨W.heap.size, xs.length, (xs.map (Value.int .i64)).toArray, rfl, Nat.le_refl _, by show (W.heap.push _)[W.heap.size]? = _; simp, Nat.le_refl _, hl, by show _ = xs.length * 1; simp, ?_⟩⟩, ?_⟩
  · show List.take (xs.length * 1) _ = _
    exact List.take_of_length_le (by simp)
  · exact Kd.reps_scalar xs
theorem raw_C (W : World) (xs : List Int) (hl : xs.length ≤ maxLen) : Kd.C (Kd.int .i64) (W.alloc (.cells (xs.map (Value.int .i64)).toArray 3)) (some ⟨W.heap.size, 0, none⟩) xs.length xs := (Kd.R_reads' (R_raw W xs hl)).2.2
variable {w1 : World} {A0 : Option Addr} {c0 : Nat}
theorem good_lit (hT : Tab w1) (hL : Kd.C k44 w1 A0 2 twoL) (hc : 2 ≤ c0) (xs : List Int) (r : Bool) (hf : trace_Good.f 30 twoL xs = some r) (hl : xs.length ≤ 100) (W : World) (z : Nat) (hz : W.heap.size = z) (hB : Below w1.heap.size w1 W) :
    Calls Tryd.prog 9 #[.slice A0 2 c0, .slice (some ⟨z, 0, none⟩) xs.length xs.length] (W.alloc (.cells (xs.map (Value.int .i64)).toArray 3)) fun e w' => e = .returned (.bool r) ∧ Below w1.heap.size w1 w' := by
  subst hz
  have hB2 := below_alloc hB (.cells (xs.map (Value.int .i64)).toArray 3)
  refine (trace_Good.calls 30 A0 c0 twoL _ _ xs r _ (tab_below hT hB2) (Kd.C_below hL hB2) hc (raw_C W xs (by unfold maxLen; omega)) (Nat.le_refl _) hf).mono ?_
  rintro e w' ⟨rfl, hb⟩
  exact ⟨rfl, below_step hB2 hb⟩
theorem met_lit (hT : Tab w1) (hL : Kd.C k44 w1 A0 2 twoL) (hc : 2 ≤ c0) (xs : List Int) (i : Int) (r : Bool) (hf : trace_MetBy.f 30 twoL xs i = some r) (hl : xs.length ≤ 100) (W : World) (z : Nat) (hz : W.heap.size = z) (hB : Below w1.heap.size w1 W) :
    Calls Tryd.prog 17 #[.slice A0 2 c0, .slice (some ⟨z, 0, none⟩) xs.length xs.length, .int .i64 i] (W.alloc (.cells (xs.map (Value.int .i64)).toArray 3)) fun e w' => e = .returned (.bool r) ∧ Below w1.heap.size w1 w' := by
  subst hz
  have hB2 := below_alloc hB (.cells (xs.map (Value.int .i64)).toArray 3)
  refine (trace_MetBy.calls 30 A0 c0 twoL _ _ xs i r _ (tab_below hT hB2) (Kd.C_below hL hB2) hc (raw_C W xs (by unfold maxLen; omega)) (Nat.le_refl _) hf).mono ?_
  rintro e w' ⟨rfl, hb⟩
  exact ⟨rfl, below_step hB2 hb⟩
theorem done_lit (hT : Tab w1) (hL : Kd.C k44 w1 A0 2 twoL) (hc : 2 ≤ c0) (xs : List Int) (i n : Int) (r : Bool) (hf : trace_DoneAt.f 30 twoL xs i = some (n, r)) (hl : xs.length ≤ 100) (W : World) (z : Nat) (hz : W.heap.size = z) (hB : Below w1.heap.size w1 W) :
    Calls Tryd.prog 16 #[.slice A0 2 c0, .slice (some ⟨z, 0, none⟩) xs.length xs.length, .int .i64 i] (W.alloc (.cells (xs.map (Value.int .i64)).toArray 3)) fun e w' => e = .returned (.tuple #[.int .i64 n, .bool r]) ∧ Below w1.heap.size w1 w' := by
  subst hz
  have hB2 := below_alloc hB (.cells (xs.map (Value.int .i64)).toArray 3)
  refine (trace_DoneAt.calls 30 A0 c0 twoL _ _ xs i n r _ (tab_below hT hB2) (Kd.C_below hL hB2) hc (raw_C W xs (by unfold maxLen; omega)) (Nat.le_refl _) hf).mono ?_
  rintro e w' ⟨rfl, hb⟩
  exact ⟨rfl, below_step hB2 hb⟩
theorem sw_lit (xs : List Int) (n : Int) (hf : trace_Switches.f 30 xs = some n) (hl : xs.length ≤ 100) (W : World) (z : Nat) (hz : W.heap.size = z) (hB : Below w1.heap.size w1 W) :
    Calls Tryd.prog 14 #[.slice (some ⟨z, 0, none⟩) xs.length xs.length] (W.alloc (.cells (xs.map (Value.int .i64)).toArray 3)) fun e w' => e = .returned (.int .i64 n) ∧ Below w1.heap.size w1 w' := by
  subst hz
  have hB2 := below_alloc hB (.cells (xs.map (Value.int .i64)).toArray 3)
  refine (trace_Switches.calls 30 _ _ xs n _ (raw_C W xs (by unfold maxLen; omega)) (Nat.le_refl _) hf).mono ?_
  rintro e w' ⟨rfl, ⟨nd, rfl⟩⟩
  exact ⟨rfl, pw_below_drewN hB2 nd⟩
theorem cut_lit (xs : List Int) (i : Int) (r : List Int) (hf : trace_Cut.f xs i = some r) (hl : xs.length ≤ 100) (W : World) (z : Nat) (hz : W.heap.size = z) (hB : Below w1.heap.size w1 W) :
    Calls Tryd.prog 10 #[.slice (some ⟨z, 0, none⟩) xs.length xs.length, .int .i64 i] (W.alloc (.cells (xs.map (Value.int .i64)).toArray 3)) fun e w' => ∃ A c, e = .returned (.slice A r.length c) ∧ Aside0 (Kd.C (Kd.int .i64) w' A r.length r ∧ r.length ≤ c) ∧ Below w1.heap.size w1 w' := by
  subst hz
  have hB2 := below_alloc hB (.cells (xs.map (Value.int .i64)).toArray 3)
  refine (trace_Cut.calls _ _ xs i r _ (raw_C W xs (by unfold maxLen; omega)) (Nat.le_refl _) hf).mono ?_
  rintro e w' ⟨v, rfl, hR, hb⟩
  obtain ⟨A, c, rfl⟩ := Kd.R_slice hR
  exact ⟨A, c, rfl, ⟨(Kd.R_reads' hR).2.2, (Kd.R_reads' hR).2.1⟩, below_step hB2 hb⟩
theorem ints_lit {w2 : World} (A : Option Addr) (c : Nat) (xs ys : List Int) (hA : Aside0 (Kd.C (Kd.int .i64) w2 A xs.length xs ∧ xs.length ≤ c)) (r : Bool) (hf : tocsinlaw9_ints.f 30 xs ys = some r) (hl : ys.length ≤ 100) (z : Nat) (hz : w2.heap.size = z) (hB : Below w1.heap.size w1 w2) :
    Calls Tryd.prog 18 #[.slice A xs.length c, .slice (some ⟨z, 0, none⟩) ys.length ys.length] (w2.alloc (.cells (ys.map (Value.int .i64)).toArray 3)) fun e w' => e = .returned (.bool r) ∧ Below w1.heap.size w1 w' := by
  subst hz
  have hB2 := below_alloc hB (.cells (ys.map (Value.int .i64)).toArray 3)
  refine (tocsinlaw9_ints.calls 30 A c xs _ _ ys r _ (Kd.C_alloc hA.out.1 _) hA.out.2 (raw_C w2 ys (by unfold maxLen; omega)) (Nat.le_refl _) hf).mono ?_
  rintro e w' ⟨rfl, ⟨nd, rfl⟩⟩
  exact ⟨rfl, pw_below_drewN hB2 nd⟩
theorem ints_one {w2 : World} (A : Option Addr) (c : Nat) (hA : Aside0 (Kd.C (Kd.int .i64) w2 A 1 [1] ∧ 1 ≤ c)) (z : Nat) (hz : w2.heap.size = z) (hB : Below w1.heap.size w1 w2) :
    Calls Tryd.prog 18 #[.slice A 1 c, .slice (some ⟨z, 0, none⟩) 1 1] (w2.alloc (.cells #[.int .i64 1] 3)) fun e w' => e = .returned (.bool true) ∧ Below w1.heap.size w1 w' :=
  ints_lit A c [1] [1] hA true (by decide +kernel) (by decide) z hz hB
theorem awake_k : tocsinlaw9_awake.f 20 = some true := by decide +kernel
set_option maxHeartbeats 8000000 in
set_option maxRecDepth 100000 in
theorem known_walk (W0 : World) (hT0 : Tab W0) : Calls Tryd.prog 5 #[] W0 fun e w' => e = .returned (.bool true) ∧ Below W0.heap.size W0 w' := by
  have HB := Aside0.mk (Below.refl W0.heap.size W0)
  have HT := Aside0.mk hT0
  clear hT0
  go_enter Tryd.func5, Tryd.ntmps5
  go_wp2_with (first | (go_at_call 7; (with_reducible refine (tocsinlaw9_awake.calls 20 true _ (tab_below HT.out (by repeat (first | (with_reducible first | exact HB.out | apply below_alloc | apply pw_below_drewN | apply below_drew1) | exact HB.out))) awake_k).mono ?_); rintro e w7 ⟨rfl, hb⟩; have n0_ := Aside0.mk (below_step (by repeat (first | (with_reducible first | exact HB.out | apply below_alloc | apply pw_below_drewN | apply below_drew1) | exact HB.out)) hb); clear HB; have HB := n0_; clear n0_ hb))
  (with_reducible refine (tocsinlaw9_two.calls twoL _ rfl).mono ?_)
  rintro e w1 ⟨v, rfl, hR, hb⟩
  obtain ⟨A0, c0, rfl⟩ : ∃ A0 c0, v = .slice A0 2 c0 := Kd.R_slice hR
  have hL := Aside0.mk (show Kd.C k44 w1 A0 2 twoL from (Kd.R_reads' hR).2.2)
  have hC := Aside0.mk (show 2 ≤ c0 from (Kd.R_reads' hR).2.1)
  have hB0 := Aside0.mk (below_step HB.out hb)
  have hT := Aside0.mk (tab_below HT.out hB0.out)
  clear HB hb hR HT
  have HB := Aside0.mk (Below.refl w1.heap.size w1)
  have D1 := Aside0.mk (show ∀ (W : World) (z : Nat), W.heap.size = z → Below w1.heap.size w1 W → Calls Tryd.prog 16 #[.slice A0 2 c0, .slice (some ⟨z, 0, none⟩) 3 3, .int .i64 1] (W.alloc (.cells #[.int .i64 0, .int .i64 1, .int .i64 1] 3)) fun e w' => e = .returned (.tuple #[.int .i64 3, .bool true]) ∧ Below w1.heap.size w1 w' from fun W z hz hB => done_lit hT.out hL.out hC.out [0, 1, 1] 1 3 true (by decide +kernel) (by decide) W z hz hB)
  have D2 := Aside0.mk (show ∀ (W : World) (z : Nat), W.heap.size = z → Below w1.heap.size w1 W → Calls Tryd.prog 16 #[.slice A0 2 c0, .slice (some ⟨z, 0, none⟩) 2 2, .int .i64 1] (W.alloc (.cells #[.int .i64 0, .int .i64 1] 3)) fun e w' => e = .returned (.tuple #[.int .i64 0, .bool false]) ∧ Below w1.heap.size w1 w' from fun W z hz hB => done_lit hT.out hL.out hC.out [0, 1] 1 0 false (by decide +kernel) (by decide) W z hz hB)
  have G0 := Aside0.mk (show ∀ (W : World) (z : Nat), W.heap.size = z → Below w1.heap.size w1 W → Calls Tryd.prog 9 #[.slice A0 2 c0, .slice (some ⟨z, 0, none⟩) 1 1] (W.alloc (.cells #[.int .i64 1] 3)) fun e w' => e = .returned (.bool false) ∧ Below w1.heap.size w1 w' from fun W z hz hB => good_lit hT.out hL.out hC.out [1] false (by decide +kernel) (by decide) W z hz hB)
  have G1 := Aside0.mk (show ∀ (W : World) (z : Nat), W.heap.size = z → Below w1.heap.size w1 W → Calls Tryd.prog 9 #[.slice A0 2 c0, .slice (some ⟨z, 0, none⟩) 3 3] (W.alloc (.cells #[.int .i64 0, .int .i64 0, .int .i64 0] 3)) fun e w' => e = .returned (.bool false) ∧ Below w1.heap.size w1 w' from fun W z hz hB => good_lit hT.out hL.out hC.out [0, 0, 0] false (by decide +kernel) (by decide) W z hz hB)
  have G2 := Aside0.mk (show ∀ (W : World) (z : Nat), W.heap.size = z → Below w1.heap.size w1 W → Calls Tryd.prog 9 #[.slice A0 2 c0, .slice (some ⟨z, 0, none⟩) 5 5] (W.alloc (.cells #[.int .i64 (-1), .int .i64 (-1), .int .i64 (-1), .int .i64 (-1), .int .i64 0] 3)) fun e w' => e = .returned (.bool false) ∧ Below w1.heap.size w1 w' from fun W z hz hB => good_lit hT.out hL.out hC.out [-1, -1, -1, -1, 0] false (by decide +kernel) (by decide) W z hz hB)
  have G3 := Aside0.mk (show ∀ (W : World) (z : Nat), W.heap.size = z → Below w1.heap.size w1 W → Calls Tryd.prog 9 #[.slice A0 2 c0, .slice (some ⟨z, 0, none⟩) 1 1] (W.alloc (.cells #[.int .i64 2] 3)) fun e w' => e = .returned (.bool false) ∧ Below w1.heap.size w1 w' from fun W z hz hB => good_lit hT.out hL.out hC.out [2] false (by decide +kernel) (by decide) W z hz hB)
  have G4 := Aside0.mk (show ∀ (W : World) (z : Nat), W.heap.size = z → Below w1.heap.size w1 W → Calls Tryd.prog 9 #[.slice A0 2 c0, .slice (some ⟨z, 0, none⟩) 1 1] (W.alloc (.cells #[.int .i64 (-2)] 3)) fun e w' => e = .returned (.bool false) ∧ Below w1.heap.size w1 w' from fun W z hz hB => good_lit hT.out hL.out hC.out [-2] false (by decide +kernel) (by decide) W z hz hB)
  have M1 := Aside0.mk (show ∀ (W : World) (z : Nat), W.heap.size = z → Below w1.heap.size w1 W → Calls Tryd.prog 17 #[.slice A0 2 c0, .slice (some ⟨z, 0, none⟩) 3 3, .int .i64 1] (W.alloc (.cells #[.int .i64 0, .int .i64 1, .int .i64 1] 3)) fun e w' => e = .returned (.bool false) ∧ Below w1.heap.size w1 w' from fun W z hz hB => met_lit hT.out hL.out hC.out [0, 1, 1] 1 false (by decide +kernel) (by decide) W z hz hB)
  have G5 := Aside0.mk (show ∀ (W : World) (z : Nat), W.heap.size = z → Below w1.heap.size w1 W → Calls Tryd.prog 9 #[.slice A0 2 c0, .slice (some ⟨z, 0, none⟩) 3 3] (W.alloc (.cells #[.int .i64 0, .int .i64 1, .int .i64 1] 3)) fun e w' => e = .returned (.bool true) ∧ Below w1.heap.size w1 w' from fun W z hz hB => good_lit hT.out hL.out hC.out [0, 1, 1] true (by decide +kernel) (by decide) W z hz hB)
  have S1 := Aside0.mk (show ∀ (W : World) (z : Nat), W.heap.size = z → Below w1.heap.size w1 W → Calls Tryd.prog 14 #[.slice (some ⟨z, 0, none⟩) 6 6] (W.alloc (.cells #[.int .i64 0, .int .i64 1, .int .i64 (-1), .int .i64 0, .int .i64 0, .int .i64 1] 3)) fun e w' => e = .returned (.int .i64 2) ∧ Below w1.heap.size w1 w' from fun W z hz hB => sw_lit  [0, 1, -1, 0, 0, 1] 2 (by decide +kernel) (by decide) W z hz hB)
  have C1 := Aside0.mk (show ∀ (W : World) (z : Nat), W.heap.size = z → Below w1.heap.size w1 W → Calls Tryd.prog 10 #[.slice (some ⟨z, 0, none⟩) 2 2, .int .i64 (-1)] (W.alloc (.cells #[.int .i64 1, .int .i64 2] 3)) fun e w' => ∃ A c, e = .returned (.slice A 0 c) ∧ Aside0 (Kd.C (Kd.int .i64) w' A 0 [] ∧ 0 ≤ c) ∧ Below w1.heap.size w1 w' from fun W z hz hB => cut_lit  [1, 2] (-1) [] (by decide +kernel) (by decide) W z hz hB)
  have C2 := Aside0.mk (show ∀ (W : World) (z : Nat), W.heap.size = z → Below w1.heap.size w1 W → Calls Tryd.prog 10 #[.slice (some ⟨z, 0, none⟩) 2 2, .int .i64 (1)] (W.alloc (.cells #[.int .i64 1, .int .i64 2] 3)) fun e w' => ∃ A c, e = .returned (.slice A 1 c) ∧ Aside0 (Kd.C (Kd.int .i64) w' A 1 [1] ∧ 1 ≤ c) ∧ Below w1.heap.size w1 w' from fun W z hz hB => cut_lit  [1, 2] (1) [1] (by decide +kernel) (by decide) W z hz hB)
  have C3 := Aside0.mk (show ∀ (W : World) (z : Nat), W.heap.size = z → Below w1.heap.size w1 W → Calls Tryd.prog 10 #[.slice (some ⟨z, 0, none⟩) 2 2, .int .i64 (9)] (W.alloc (.cells #[.int .i64 1, .int .i64 2] 3)) fun e w' => ∃ A c, e = .returned (.slice A 2 c) ∧ Aside0 (Kd.C (Kd.int .i64) w' A 2 [1, 2] ∧ 2 ≤ c) ∧ Below w1.heap.size w1 w' from fun W z hz hB => cut_lit  [1, 2] (9) [1, 2] (by decide +kernel) (by decide) W z hz hB)
  have M2 := Aside0.mk (show ∀ (W : World) (z : Nat), W.heap.size = z → Below w1.heap.size w1 W → Calls Tryd.prog 17 #[.slice A0 2 c0, .slice (some ⟨z, 0, none⟩) 2 2, .int .i64 7] (W.alloc (.cells #[.int .i64 0, .int .i64 0] 3)) fun e w' => e = .returned (.bool false) ∧ Below w1.heap.size w1 w' from fun W z hz hB => met_lit hT.out hL.out hC.out [0, 0] 7 false (by decide +kernel) (by decide) W z hz hB)
  clear hT hL hC
  go_wp2_with (first | (go_at_call 16; (with_reducible refine (D1.out _ _ (by first | rfl | simp [go_sem]) (by repeat (first | (with_reducible first | exact HB.out | apply below_alloc | apply pw_below_drewN | apply below_drew1) | exact HB.out))).mono ?_); rintro e w7 ⟨rfl, hb⟩; have n0_ := Aside0.mk hb; clear HB; have HB := n0_; clear n0_ hb) | (go_at_call 16; (with_reducible refine (D2.out _ _ (by first | rfl | simp [go_sem]) (by repeat (first | (with_reducible first | exact HB.out | apply below_alloc | apply pw_below_drewN | apply below_drew1) | exact HB.out))).mono ?_); rintro e w7 ⟨rfl, hb⟩; have n0_ := Aside0.mk hb; clear HB; have HB := n0_; clear n0_ hb) | (go_at_call 9; (with_reducible refine (G0.out _ _ (by first | rfl | simp [go_sem]) (by repeat (first | (with_reducible first | exact HB.out | apply below_alloc | apply pw_below_drewN | apply below_drew1) | exact HB.out))).mono ?_); rintro e w7 ⟨rfl, hb⟩; have n0_ := Aside0.mk hb; clear HB; have HB := n0_; clear n0_ hb) | (go_at_call 9; (with_reducible refine (G1.out _ _ (by first | rfl | simp [go_sem]) (by repeat (first | (with_reducible first | exact HB.out | apply below_alloc | apply pw_below_drewN | apply below_drew1) | exact HB.out))).mono ?_); rintro e w7 ⟨rfl, hb⟩; have n0_ := Aside0.mk hb; clear HB; have HB := n0_; clear n0_ hb) | (go_at_call 9; (with_reducible refine (G2.out _ _ (by first | rfl | simp [go_sem]) (by repeat (first | (with_reducible first | exact HB.out | apply below_alloc | apply pw_below_drewN | apply below_drew1) | exact HB.out))).mono ?_); rintro e w7 ⟨rfl, hb⟩; have n0_ := Aside0.mk hb; clear HB; have HB := n0_; clear n0_ hb) | (go_at_call 9; (with_reducible refine (G3.out _ _ (by first | rfl | simp [go_sem]) (by repeat (first | (with_reducible first | exact HB.out | apply below_alloc | apply pw_below_drewN | apply below_drew1) | exact HB.out))).mono ?_); rintro e w7 ⟨rfl, hb⟩; have n0_ := Aside0.mk hb; clear HB; have HB := n0_; clear n0_ hb) | (go_at_call 9; (with_reducible refine (G4.out _ _ (by first | rfl | simp [go_sem]) (by repeat (first | (with_reducible first | exact HB.out | apply below_alloc | apply pw_below_drewN | apply below_drew1) | exact HB.out))).mono ?_); rintro e w7 ⟨rfl, hb⟩; have n0_ := Aside0.mk hb; clear HB; have HB := n0_; clear n0_ hb) | (go_at_call 9; (with_reducible refine (G5.out _ _ (by first | rfl | simp [go_sem]) (by repeat (first | (with_reducible first | exact HB.out | apply below_alloc | apply pw_below_drewN | apply below_drew1) | exact HB.out))).mono ?_); rintro e w7 ⟨rfl, hb⟩; have n0_ := Aside0.mk hb; clear HB; have HB := n0_; clear n0_ hb) | (go_at_call 17; (with_reducible refine (M1.out _ _ (by first | rfl | simp [go_sem]) (by repeat (first | (with_reducible first | exact HB.out | apply below_alloc | apply pw_below_drewN | apply below_drew1) | exact HB.out))).mono ?_); rintro e w7 ⟨rfl, hb⟩; have n0_ := Aside0.mk hb; clear HB; have HB := n0_; clear n0_ hb) | (go_at_call 17; (with_reducible refine (M2.out _ _ (by first | rfl | simp [go_sem]) (by repeat (first | (with_reducible first | exact HB.out | apply below_alloc | apply pw_below_drewN | apply below_drew1) | exact HB.out))).mono ?_); rintro e w7 ⟨rfl, hb⟩; have n0_ := Aside0.mk hb; clear HB; have HB := n0_; clear n0_ hb) | (go_at_call 14; (with_reducible refine (S1.out _ _ (by first | rfl | simp [go_sem]) (by repeat (first | (with_reducible first | exact HB.out | apply below_alloc | apply pw_below_drewN | apply below_drew1) | exact HB.out))).mono ?_); rintro e w7 ⟨rfl, hb⟩; have n0_ := Aside0.mk hb; clear HB; have HB := n0_; clear n0_ hb) | (go_at_call 10; (with_reducible refine (C1.out _ _ (by first | rfl | simp [go_sem]) (by repeat (first | (with_reducible first | exact HB.out | apply below_alloc | apply pw_below_drewN | apply below_drew1) | exact HB.out))).mono ?_); rintro e w7 ⟨A, c, rfl, HAC1, hb⟩; have n0_ := Aside0.mk hb; clear HB; have HB := n0_; clear n0_ hb) | (go_at_call 10; (with_reducible refine (C2.out _ _ (by first | rfl | simp [go_sem]) (by repeat (first | (with_reducible first | exact HB.out | apply below_alloc | apply pw_below_drewN | apply below_drew1) | exact HB.out))).mono ?_); rintro e w7 ⟨A, c, rfl, HAC2, hb⟩; have n0_ := Aside0.mk hb; clear HB; have HB := n0_; clear n0_ hb) | (go_at_call 10; (with_reducible refine (C3.out _ _ (by first | rfl | simp [go_sem]) (by repeat (first | (with_reducible first | exact HB.out | apply below_alloc | apply pw_below_drewN | apply below_drew1) | exact HB.out))).mono ?_); rintro e w7 ⟨A, c, rfl, HAC3, hb⟩; have n0_ := Aside0.mk hb; clear HB; have HB := n0_; clear n0_ hb) | (go_at_call 18; (with_reducible refine (ints_one _ _ HAC2 _ (by first | rfl | simp [go_sem]) (by repeat (first | (with_reducible first | exact HB.out | apply below_alloc | apply pw_below_drewN | apply below_drew1) | exact HB.out))).mono ?_); rintro e w7 ⟨rfl, hb⟩; have n0_ := Aside0.mk hb; clear HB; have HB := n0_; clear n0_ hb))
  trace_state
  go_ret
  exact ⟨rfl, below_step hB0.out (by repeat (first | (with_reducible first | exact HB.out | apply below_alloc | apply pw_below_drewN | apply below_drew1) | exact HB.out))⟩
theorem own : ownKnob Tryd.prog.godebug = none := by kernel_rfl
theorem Tryd.laidOut : laidOutB Tryd.prog = true := by kernel_rfl
open Go.ChangeShapes Go.WideShapes Go.ChangeAt Go.RowKit
open Go.ChangeMaps (open_string shut_string)
abbrev laidL : List (String × DataW Unit) := [("unicode/utf8.acceptRanges", Rows.laid_unicode_utf8_acceptRanges), ("unicode.properties", Rows.laid_unicode_properties), ("unicode.Letter", Rows.laid_unicode_Letter), ("unicode/utf8.first", Rows.laid_unicode_utf8_first)]
theorem xL : RExtra Tryd.prog Tryd.lays200_ren := ⟨by kernel_rfl, by kernel_rfl, by kernel_rfl, by kernel_rfl, by kernel_rfl, by kernel_rfl, by kernel_rfl, by kernel_rfl⟩
theorem xU : U8Extra Tryd.prog Tryd.lays196_ren := by constructor <;> kernel_rfl
set_option maxRecDepth 1000000 in
theorem tab_of_laid {W : World} (h : laidMetH Tryd.prog laidL W) : Tab W := by
  rw [MakeChecks.laidMetH_plain _ _ _ (by kernel_rfl)] at h
  have r1 : VarReads Tryd.prog W "unicode.properties" Rows.laid_unicode_properties := Lib.laidMet.reads h (.tail _ (.head _))
  have r2 : VarReads Tryd.prog W "unicode.Letter" (rtabData letterT) := Pinned.letter_eq ▸ Lib.laidMet.reads h (.tail _ (.tail _ (.head _)))
  have r3 : VarReads Tryd.prog W "unicode/utf8.first" firstData := Pinned.utf8First_eq ▸ Lib.laidMet.reads h (.tail _ (.tail _ (.tail _ (.head _))))
  have r4 : VarReads Tryd.prog W "unicode/utf8.acceptRanges" acceptData := (show Rows.laid_unicode_utf8_acceptRanges = (acceptData : DataW Unit) by kernel_rfl) ▸ Lib.laidMet.reads h (.head _)
  refine ⟨?_, rvar_of_reads { Tryd.lays200 with } xL (by kernel_rfl) (by kernel_rfl) r2, utf8Tabs_of_readsT (U8Types.of196 Tryd.lays196) xU r3 r4⟩
  obtain ⟨g, t, cs, fuel, p, hg, hty, hvar, hd⟩ := r1
  obtain rfl := Option.some.inj ((show Tryd.prog.globalNamed "unicode.properties" = some (Tryd.lays200_ren.g 7) by kernel_rfl).symm.trans hg)
  obtain rfl := Option.some.inj ((show (Tryd.prog.globals[Tryd.lays200_ren.g 7]?).map (·.type) = some 59 by kernel_rfl).symm.trans hty)
  unfold Lib.TabIs
  rw [hvar, ← Lib.cells_of_tab (n := 256) (e := 5) Tryd.underlying59 Tryd.underlying5 (by kernel_rfl) (by kernel_rfl) hd]
set_option maxRecDepth 100000 in
theorem lifted (os : Os) (started : os.Started) (H : Type) (enc : TypeId × Value → H) :
    ReturnsInHanded {} Tryd.checked os 5 .any (fun w args => (Rows.traceKnownSpec.pre enc Tryd.prog Tryd.f5 Rows.traceKnownRow.domain false w args ∧ laidMetH Tryd.prog laidL w) ∧ sizedMet enc Tryd.prog Tryd.f5 (OpenSpec.ofChange Rows.traceKnownSpec) false w args) (Rows.traceKnownSpec.post enc Tryd.prog Tryd.f5 false true false false) := by
  refine returnsInHanded_of_change_and (C := Tryd.checked) (X := fun w _ => laidMetH Tryd.prog laidL w) (fun _ _ _ hh h => h.of_heap hh) own started (by kernel_rfl) Tryd.func5
    (ChangeSpec.witness_shaped (enc := enc) (C := Tryd.checked) (os := os) (X := fun w _ => laidMetH Tryd.prog laidL w) false (World.laidAll Tryd.prog os laidL) #[] 8 (World.laidAll_os _ _ _)
      (World.shaped_of_ZipB (by kernel_rfl) (by kernel_rfl)) (by kernel_rfl) (by kernel_rfl) (by kernel_rfl) (by rw [MakeChecks.laidMetH_plain _ _ _ (by kernel_rfl)]; exact laidMet_laidAll _ (by kernel_rfl) (by kernel_rfl))) ?_
  intro W base args ds gs before hval0 hW hcnd hsz0 hL _
  have hTb := tab_of_laid hL
  have hsz : (DataW.weightsEach Tryd.prog (Tryd.f5.params.toList ++ Rows.traceKnownSpec.plain.varTypes Tryd.prog) (ds ++ gs)).all (· ≤ reachBytes) = true := hsz0
  have hval : ∀ (j : Nat) t v, Tryd.f5.params[j]? = some t → args[j]? = some v → Value.okWide Tryd.prog W .any base t v := hval0
  have hW' := hW
  obtain ⟨p, q, hA0, hV, rfl, hfz, hnd⟩ := hW
  have hA : DataW.TrodAll enc Tryd.prog W 0 (fun _ => true) true Tryd.f5.params.toList args.toList ds p := hA0
  rw [Tryd.params5] at hA hval hsz
  obtain ⟨rfl, rfl, rfl⟩ := trodAll_none hA
  obtain ⟨rfl, rfl⟩ := trodVars_none hV
  clear hA0 hval0 hsz0 hsz
  refine (known_walk W hTb).mono fun e W' ⟨he, bel⟩ => ?_
  subst he
  exact ⟨_, rfl, _, _, _, _, _, [], hW', trodAll_mk1 (shut_bool Tryd.underlying4 _), trodAll_mk0, rfl, bel.frame _, fun h => by cases h⟩
theorem over : Rows.traceKnownRow.holds Tryd.pinned (OpenSpec.ofChange Rows.traceKnownSpec) :=
  OpenClaim.holds_of_wide 5 Tryd.f5 rfl rfl rfl rfl rfl rfl rfl ⟨rfl, rfl, rfl, rfl, rfl⟩ rfl rfl rfl rfl rfl (by kernel_rfl) Tryd.func5 (by kernel_rfl)
    (of_decide_eq_true (by kernel_rfl)) (by unfold Func.isWrapper; first | (rw [if_pos (by decide +kernel)]; kernel_rfl) | (rw [if_neg (by decide +kernel)]; exact ⟨rfl, rfl⟩))
    (fun os started H enc _ => lifted os started H enc)
end Go.Proofs.YtckceohneklddaaDoor.Pure
namespace Go.Proofs.YtckceohneklddaaDoor
open Go
/-- The tied card. -/
theorem traceKnownCard_holds : Rows.TraceKnownCardSaid :=
  Claim7.holds_tied_plain_at .later [] [.data, .data, .pinned, .pinned] true (true, "eb15ebf70cd3ac39f5b30e27681326ba4c221ded2468ea5483648a7de497c9a9") false
    Pure.over (fun _ h => by cases h) (by kernel_rfl) (fun _ h => by cases h) traceKnown_row_tie rfl ⟨rfl, rfl⟩ (by kernel_rfl) rfl
    (fun f fn hf hfn => by
      obtain rfl : f = 5 := Option.some.inj ((show Tryd.prog.funcNamed "tocsin/tocsinlaw9.TraceKnown" = some 5 by kernel_rfl).symm.trans hf) |>.symm
      obtain rfl : fn = Tryd.f5 := (Option.some.inj (Tryd.func5.symm.trans hfn)).symm
      exact ⟨by kernel_rfl, fun j t ht => by
        rw [Tryd.params5] at ht
        have hm : t ∈ ([] : List TypeId) := by simpa using Array.mem_of_getElem? ht
        have hall : (([] : List TypeId).all fun u => !Tryd.prog.wantsStandIn u) = true := by kernel_rfl
        exact (show Tryd.prog.wantsStandIn t = false by simpa using List.all_eq_true.1 hall t hm)⟩)
    (by kernel_rfl)
end Go.Proofs.YtckceohneklddaaDoor
#print axioms Go.Proofs.YtckceohneklddaaDoor.traceKnownCard_holds
namespace Go.Proofs.YtckceohneklddaaDoor.Pure

end Go.Proofs.YtckceohneklddaaDoor.Pure
