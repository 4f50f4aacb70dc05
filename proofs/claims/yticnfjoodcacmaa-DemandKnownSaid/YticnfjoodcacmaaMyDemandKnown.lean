/- What chapter 11 says of frames and of bounds: one closed statement. -/
import Derived.Test.YticnfjoodcacmaaPDemBx
import Derived.Test.YticnfjoodcacmaaDemKit
import Derived.Test.YticnfjoodcacmaaRows
import Derived.WalkKit
import Derived.ProofKit
import Derived.OpenShut
import Derived.ShutString
import Derived.ChangeOld
import Derived.Below
import Derived.SizedLaws
import Derived.Carry
import Derived.Lib.SmallJoins
import Derived.Test.YticnfjoodcacmaaWSized
namespace Go.Proofs.Yticnfjoodcacmaa.Pure
open Go.RowKit Go.Proofs.Yticnfjoodcacmaa.PDemB Go.Proofs.YticnfjoodcacmaaW.PrintWords Go.Proofs.YticnfjoodcacmaaW.PrintLast Go.Proofs.YticnfjoodcacmaaW.PrintMore 
set_option linter.unusedVariables false
set_option linter.unusedSimpArgs false

set_option maxHeartbeats 8000000
/-- The cells of a list of tasks, one behind another. -/
def flat (l : List S27) : List Value := l.flatMap fun x => [.int .i64 x.f0, .int .i64 x.f1, .int .i64 x.f2]
theorem flat_at : ∀ (l : List S27) (j i : Nat) (x : S27) (u : Value), l[j]? = some x → ([.int .i64 x.f0, .int .i64 x.f1, .int .i64 x.f2] : List Value)[i]? = some u → (flat l)[j * 3 + i]? = some u
  | [], j, i, x, u, h, _ => by simp at h
  | y :: l, 0, i, x, u, h, hu => by
    obtain rfl : y = x := by simpa using h
    have hi : i < 3 := by have := (List.getElem?_eq_some_iff.1 hu).1; simpa using this
    unfold flat
    rw [List.flatMap_cons, List.getElem?_append_left (by simpa using hi), Nat.zero_mul, Nat.zero_add]
    exact hu
  | y :: l, j + 1, i, x, u, h, hu => by
    have := flat_at l j i x u (by simpa using h) hu
    unfold flat at this ⊢
    rw [List.flatMap_cons, List.getElem?_append_right (by simp; omega)]
    simp only [List.length_cons, List.length_nil]
    rw [show (j + 1) * 3 + i - (0 + 1 + 1 + 1) = j * 3 + i by omega]
    exact this
theorem kd_lit (l : List S27) (hl : l.length ≤ 100) (w : World) (h : Nat) (hc : ∀ j u, (flat l)[j]? = some u → w.cell? ⟨h, j, none⟩ = some u) : Kd.C k27 w (some ⟨h, 0, none⟩) l.length l := by
  refine ⟨rfl, by omega, fun _ => ⟨_, rfl, fun j p hj => ⟨_, rfl, k27_mk w p, fun i u hu => ?_⟩⟩⟩
  have h3 := hc _ _ (flat_at l j i p u hj hu)
  show w.cell? (Addr.add ⟨h, 0, none⟩ (j * 3 + i)) = some u
  rw [show Addr.add ⟨h, 0, none⟩ (j * 3 + i) = ⟨h, j * 3 + i, none⟩ by simp [Addr.add]; omega]
  exact h3
theorem cells_of (l : List S27) (w : World) (c : Array Value) (h : c = (flat l).toArray) : ∀ j u, (flat l)[j]? = some u → (w.alloc (.cells c 27)).cell? ⟨w.heap.size, j, none⟩ = some u := by
  intro j u hj
  rw [World.cell?_alloc_new, h, List.getElem?_toArray]
  exact hj
theorem frame_lit (l : List S27) (hl : l.length ≤ 100) (n r e : Int) (c : Nat) (hn : l.length = c) (he : frameS (l.map qT) = (r, e)) (w : World) (h : Nat) (hc : ∀ j u, (flat l)[j]? = some u → w.cell? ⟨h, j, none⟩ = some u) :
    Calls Try.prog 8 #[.slice (some ⟨h, 0, none⟩) c c] w fun e' w' => e' = .returned (.tuple #[.int .i64 r, .int .i64 e]) ∧ Below w.heap.size w w' := by
  subst hn
  exact demand_Frame.calls 9223372036854775990 _ _ l r e w (kd_lit l hl w h hc) (Nat.le_refl _) (by rw [frame_is _ _ (by omega), he])
theorem holds_lit (l : List S27) (hl : l.length ≤ 100) (r : Bool) (e : Int) (c : Nat) (hn : l.length = c) (he : holdsS (l.map qT) = (r, e)) (w : World) (h : Nat) (hc : ∀ j u, (flat l)[j]? = some u → w.cell? ⟨h, j, none⟩ = some u) :
    Calls Try.prog 9 #[.slice (some ⟨h, 0, none⟩) c c] w fun e' w' => e' = .returned (.tuple #[.bool r, .int .i64 e]) ∧ Below w.heap.size w w' := by
  subst hn
  exact demand_Holds.calls 9223372036854775990 _ _ l r e w (kd_lit l hl w h hc) (Nat.le_refl _) (by rw [holds_is _ _ (by omega), he])
theorem all_lit (l : List S27) (hl : l.length ≤ 100) (long r : Int) (c : Nat) (hn : l.length = c) (hlo : -9223372036854775808 ≤ long ∧ long ≤ 9223372036854775807) (he : allS (l.map qT) long = r) (w : World) (h : Nat) (hc : ∀ j u, (flat l)[j]? = some u → w.cell? ⟨h, j, none⟩ = some u) :
    Calls Try.prog 12 #[.slice (some ⟨h, 0, none⟩) c c, .int .i64 long] w fun e' w' => e' = .returned (.int .i64 r) ∧ Below w.heap.size w w' := by
  subst hn
  exact demand_All.calls 9223372036854775990 _ _ l long r w (kd_lit l hl w h hc) (Nat.le_refl _) (by rw [all_is _ _ _ hlo (by omega), he])
theorem frame_nil (w : World) : Calls Try.prog 8 #[.slice none 0 0] w fun e' w' => e' = .returned (.tuple #[.int .i64 1, .int .i64 0]) ∧ Below w.heap.size w w' :=
  demand_Frame.calls 9223372036854775990 none 0 [] 1 0 w ⟨rfl, by decide, fun h => absurd h (by simp)⟩ (Nat.le_refl _) (by rw [frame_is _ _ (by omega)]; decide +kernel)
theorem of_lit (p n s long r : Int) (hlo : -9223372036854775808 ≤ long ∧ long ≤ 9223372036854775807) (he : ofS (p, n, s) long = r) (w : World) : Calls Try.prog 10 #[.agg #[.int .i64 p, .int .i64 n, .int .i64 s], .int .i64 long] w fun e' w' => e' = .returned (.int .i64 r) ∧ Below w.heap.size w w' :=
  demand_Of.calls 1 p n s long r w (by rw [of_is 1 p n s long hlo (by omega), he])
theorem good_lit (p n s : Int) (r : Bool) (he : goodTB p n s = r) (w : World) : Calls Try.prog 11 #[.agg #[.int .i64 p, .int .i64 n, .int .i64 s]] w fun e' w' => e' = .returned (.bool r) ∧ Below w.heap.size w w' :=
  demand_Good.calls p n s r w (by rw [goodT_is', he])
theorem awake_any (w : World) : Calls Try.prog 7 #[] w fun e' w' => e' = .returned (.bool true) ∧ Below w.heap.size w w' :=
  tocsinlaw11_awake.calls 9223372036854775990 true w (awake_is _ (by omega))
theorem mk_run (n : Nat) (h : n ≤ 1000) (w : World) : (Instr.makeSlice 28 (.int .i64 (n : Int)) (.int .i64 (n : Int))).run Try.prog w = .ok (.slice (some ⟨w.heap.size, 0, none⟩) n n) (w.alloc (.cells (madeCells #[.int .i64 0, .int .i64 0, .int .i64 0] (n * 3)) 27)) := by
  have hinfo : (Try.prog.info? 27).map (fun i => (i.zero, i.size, i.bytes)) = some (some (.agg #[.int .i64 0, .int .i64 0, .int .i64 0]), 3, 24) := by kernel_rfl
  obtain ⟨i0, hi, hzz⟩ := Option.map_eq_some_iff.1 hinfo
  simp only [Prod.mk.injEq] at hzz
  obtain ⟨hz0, hz1, hz2⟩ := hzz
  have := run_make (P := Try.prog) w 28 27 i0 _ Try.underlying28 hi hz0 .i64 .i64 (n : Int) (n : Int) (by omega) (by omega) (by rw [hz2]; omega) (by omega)
  rw [hz1] at this
  simp only [Int.toNat_natCast] at this
  exact this
theorem cells1 : madeCells #[.int .i64 0, .int .i64 0, .int .i64 0] (1 * 3) = (flat [⟨0, 0, 0⟩]).toArray := by kernel_rfl
theorem cells21 : madeCells #[.int .i64 0, .int .i64 0, .int .i64 0] (21 * 3) = (flat (List.replicate 21 ⟨0, 0, 0⟩)).toArray := by kernel_rfl
theorem mk1 (w : World) : (Instr.makeSlice 28 (.int .i64 1) (.int .i64 1)).run Try.prog w = .ok (.slice (some ⟨w.heap.size, 0, none⟩) 1 1) (w.alloc (.cells (flat [⟨0, 0, 0⟩]).toArray 27)) := by
  rw [← cells1]; exact mk_run 1 (by omega) w
theorem mk21 (w : World) : (Instr.makeSlice 28 (.int .i64 21) (.int .i64 21)).run Try.prog w = .ok (.slice (some ⟨w.heap.size, 0, none⟩) 21 21) (w.alloc (.cells (flat (List.replicate 21 ⟨0, 0, 0⟩)).toArray 27)) := by
  rw [← cells21]; exact mk_run 21 (by omega) w
attribute [local go_sem] mk1 mk21
set_option maxRecDepth 100000 in
theorem known_walk (W : World) : Calls Try.prog 3 #[] W fun e w' => e = .returned (.bool true) ∧ Below W.heap.size W w' := by
  have HB := Aside0.mk (Below.refl W.heap.size W)
  have A1 := Aside0.mk (frame_lit [⟨4, 1, 3⟩, ⟨6, 1, 0⟩] (by decide) 0 12 0 2 rfl (by decide +kernel))
  have A2 := Aside0.mk (frame_lit [⟨9973, 1, 1000⟩] (by decide) 0 0 2 1 rfl (by decide +kernel))
  have A3 := Aside0.mk (frame_lit [⟨0, 0, 0⟩] (by decide) 0 0 1 1 rfl (by decide +kernel))
  have A4 := Aside0.mk (holds_lit (List.replicate 21 ⟨0, 0, 0⟩) (by decide) false 1 21 rfl (by decide +kernel))
  have A5 := Aside0.mk frame_nil
  have A6 := Aside0.mk (holds_lit [⟨2, 1, 0⟩, ⟨3, 2, 0⟩] (by decide) false 0 2 rfl (by decide +kernel))
  have A7 := Aside0.mk (holds_lit [⟨2, 1, 0⟩, ⟨4, 2, 0⟩] (by decide) true 0 2 rfl (by decide +kernel))
  have A8 := Aside0.mk (holds_lit [⟨2, 2, 2⟩, ⟨4, 1, 0⟩] (by decide) true 0 2 rfl (by decide +kernel))
  have B1 := Aside0.mk (of_lit 2 1 0 (-1) 0 (by decide) (by decide +kernel))
  have B2 := Aside0.mk (good_lit 1 1 1 false (by decide +kernel))
  have B3 := Aside0.mk (all_lit (List.replicate 21 ⟨0, 0, 0⟩) (by decide) 5 0 21 rfl (by decide) (by decide +kernel))
  have B4 := Aside0.mk (of_lit 1 1000 0 4611686018427387904 1000000000 (by decide) (by decide +kernel))
  go_enter Try.func3, Try.ntmps3
  go_wp2_with (first | (go_at_call 7; (with_reducible refine (awake_any _).mono ?_); rintro e w7 ⟨rfl, hb⟩; have n0_ := Aside0.mk (below_step (by repeat (first | (with_reducible first | exact HB.out | apply below_alloc | apply pw_below_drewN | apply below_drew1) | exact HB.out)) hb); clear HB; have HB := n0_; clear n0_ hb) | (go_at_call 8; (with_reducible refine (A1.out _ _ (by first | (intro j u hj; rw [World.cell?_alloc_new, List.getElem?_toArray]; exact hj) | (intro j u hj; simp [flat, World.cell?_alloc_new] at hj ⊢; exact hj))).mono ?_); rintro e w7 ⟨rfl, hb⟩; have n0_ := Aside0.mk (below_step (by repeat (first | (with_reducible first | exact HB.out | apply below_alloc | apply pw_below_drewN | apply below_drew1) | exact HB.out)) hb); clear HB; have HB := n0_; clear n0_ hb) | (go_at_call 8; (with_reducible refine (A2.out _ _ (by first | (intro j u hj; rw [World.cell?_alloc_new, List.getElem?_toArray]; exact hj) | (intro j u hj; simp [flat, World.cell?_alloc_new] at hj ⊢; exact hj))).mono ?_); rintro e w7 ⟨rfl, hb⟩; have n0_ := Aside0.mk (below_step (by repeat (first | (with_reducible first | exact HB.out | apply below_alloc | apply pw_below_drewN | apply below_drew1) | exact HB.out)) hb); clear HB; have HB := n0_; clear n0_ hb) | (go_at_call 8; (with_reducible refine (A3.out _ _ (by first | (intro j u hj; rw [World.cell?_alloc_new, List.getElem?_toArray]; exact hj) | (intro j u hj; simp [flat, World.cell?_alloc_new] at hj ⊢; exact hj))).mono ?_); rintro e w7 ⟨rfl, hb⟩; have n0_ := Aside0.mk (below_step (by repeat (first | (with_reducible first | exact HB.out | apply below_alloc | apply pw_below_drewN | apply below_drew1) | exact HB.out)) hb); clear HB; have HB := n0_; clear n0_ hb) | (go_at_call 9; (with_reducible refine (A4.out _ _ (by first | (intro j u hj; rw [World.cell?_alloc_new, List.getElem?_toArray]; exact hj) | (intro j u hj; simp [flat, World.cell?_alloc_new] at hj ⊢; exact hj))).mono ?_); rintro e w7 ⟨rfl, hb⟩; have n0_ := Aside0.mk (below_step (by repeat (first | (with_reducible first | exact HB.out | apply below_alloc | apply pw_below_drewN | apply below_drew1) | exact HB.out)) hb); clear HB; have HB := n0_; clear n0_ hb) | (go_at_call 9; (with_reducible refine (A6.out _ _ (by first | (intro j u hj; rw [World.cell?_alloc_new, List.getElem?_toArray]; exact hj) | (intro j u hj; simp [flat, World.cell?_alloc_new] at hj ⊢; exact hj))).mono ?_); rintro e w7 ⟨rfl, hb⟩; have n0_ := Aside0.mk (below_step (by repeat (first | (with_reducible first | exact HB.out | apply below_alloc | apply pw_below_drewN | apply below_drew1) | exact HB.out)) hb); clear HB; have HB := n0_; clear n0_ hb) | (go_at_call 9; (with_reducible refine (A7.out _ _ (by first | (intro j u hj; rw [World.cell?_alloc_new, List.getElem?_toArray]; exact hj) | (intro j u hj; simp [flat, World.cell?_alloc_new] at hj ⊢; exact hj))).mono ?_); rintro e w7 ⟨rfl, hb⟩; have n0_ := Aside0.mk (below_step (by repeat (first | (with_reducible first | exact HB.out | apply below_alloc | apply pw_below_drewN | apply below_drew1) | exact HB.out)) hb); clear HB; have HB := n0_; clear n0_ hb) | (go_at_call 9; (with_reducible refine (A8.out _ _ (by first | (intro j u hj; rw [World.cell?_alloc_new, List.getElem?_toArray]; exact hj) | (intro j u hj; simp [flat, World.cell?_alloc_new] at hj ⊢; exact hj))).mono ?_); rintro e w7 ⟨rfl, hb⟩; have n0_ := Aside0.mk (below_step (by repeat (first | (with_reducible first | exact HB.out | apply below_alloc | apply pw_below_drewN | apply below_drew1) | exact HB.out)) hb); clear HB; have HB := n0_; clear n0_ hb) | (go_at_call 12; (with_reducible refine (B3.out _ _ (by first | (intro j u hj; rw [World.cell?_alloc_new, List.getElem?_toArray]; exact hj) | (intro j u hj; simp [flat, World.cell?_alloc_new] at hj ⊢; exact hj))).mono ?_); rintro e w7 ⟨rfl, hb⟩; have n0_ := Aside0.mk (below_step (by repeat (first | (with_reducible first | exact HB.out | apply below_alloc | apply pw_below_drewN | apply below_drew1) | exact HB.out)) hb); clear HB; have HB := n0_; clear n0_ hb) | (go_at_call 8; (with_reducible refine (A5.out _).mono ?_); rintro e w7 ⟨rfl, hb⟩; have n0_ := Aside0.mk (below_step (by repeat (first | (with_reducible first | exact HB.out | apply below_alloc | apply pw_below_drewN | apply below_drew1) | exact HB.out)) hb); clear HB; have HB := n0_; clear n0_ hb) | (go_at_call 10; (with_reducible refine (B1.out _).mono ?_); rintro e w7 ⟨rfl, hb⟩; have n0_ := Aside0.mk (below_step (by repeat (first | (with_reducible first | exact HB.out | apply below_alloc | apply pw_below_drewN | apply below_drew1) | exact HB.out)) hb); clear HB; have HB := n0_; clear n0_ hb) | (go_at_call 10; (with_reducible refine (B4.out _).mono ?_); rintro e w7 ⟨rfl, hb⟩; have n0_ := Aside0.mk (below_step (by repeat (first | (with_reducible first | exact HB.out | apply below_alloc | apply pw_below_drewN | apply below_drew1) | exact HB.out)) hb); clear HB; have HB := n0_; clear n0_ hb) | (go_at_call 11; (with_reducible refine (B2.out _).mono ?_); rintro e w7 ⟨rfl, hb⟩; have n0_ := Aside0.mk (below_step (by repeat (first | (with_reducible first | exact HB.out | apply below_alloc | apply pw_below_drewN | apply below_drew1) | exact HB.out)) hb); clear HB; have HB := n0_; clear n0_ hb))
  go_ret
  exact ⟨rfl, (by repeat (first | (with_reducible first | exact HB.out | apply below_alloc | apply pw_below_drewN | apply below_drew1) | exact HB.out))⟩
theorem own : ownKnob Try.prog.godebug = none := by kernel_rfl
theorem Try.laidOut : laidOutB Try.prog = true := by kernel_rfl
open Go.ChangeShapes Go.WideShapes Go.ChangeAt Go.RowKit
open Go.ChangeMaps (open_string shut_string)
set_option maxRecDepth 100000 in
theorem lifted (os : Os) (started : os.Started) (H : Type) (enc : TypeId × Value → H) :
    ReturnsInHanded {} Try.checked os 3 .any (Rows.demandKnownSpec.pre6 enc Try.prog Try.f3 Rows.demandKnownRow.domain false) (Rows.demandKnownSpec.post enc Try.prog Try.f3 false true false false) := by
  refine returnsInHanded_of_change_sized (C := Try.checked) own started (by kernel_rfl) Try.func3
    (ChangeSpec.witness6 (enc := enc) (C := Try.checked) false ⟨#[], #[], []⟩ 8 (by kernel_rfl) (by kernel_rfl) (by kernel_rfl) (by kernel_rfl)) ?_
  intro W base args ds gs before hval0 hW hcnd hsz0 _
  have hsz : (DataW.weightsEach Try.prog (Try.f3.params.toList ++ Rows.demandKnownSpec.plain.varTypes Try.prog) (ds ++ gs)).all (· ≤ reachBytes) = true := hsz0
  have hval : ∀ (j : Nat) t v, Try.f3.params[j]? = some t → args[j]? = some v → Value.okWide Try.prog W .any base t v := hval0
  have hW' := hW
  obtain ⟨p, q, hA0, hV, rfl, hfz, hnd⟩ := hW
  have hA : DataW.TrodAll enc Try.prog W 0 (fun _ => true) true Try.f3.params.toList args.toList ds p := hA0
  rw [Try.params3] at hA hval hsz
  obtain ⟨rfl, rfl, rfl⟩ := trodAll_none hA
  obtain ⟨rfl, rfl⟩ := trodVars_none hV
  clear hA0 hval0 hsz0 hsz
  refine (known_walk W).mono fun e W' ⟨he, bel⟩ => ?_
  subst he
  exact ⟨_, rfl, _, _, _, _, _, [], hW', trodAll_mk1 (shut_bool Try.underlying4 _), trodAll_mk0, rfl, bel.frame _, fun h => by cases h⟩
theorem over : Rows.demandKnownRow.holds Try.pinned (OpenSpec.ofChange Rows.demandKnownSpec) :=
  OpenClaim.holds_of_wide 3 Try.f3 rfl rfl rfl rfl rfl rfl rfl ⟨rfl, rfl, rfl, rfl, rfl⟩ rfl rfl rfl rfl rfl (by kernel_rfl) Try.func3 (by kernel_rfl)
    (of_decide_eq_true (by kernel_rfl)) (by unfold Func.isWrapper; first | (rw [if_pos (by decide +kernel)]; kernel_rfl) | (rw [if_neg (by decide +kernel)]; exact ⟨rfl, rfl⟩))
    (fun os started H enc _ => lifted os started H enc)
end Go.Proofs.Yticnfjoodcacmaa.Pure
namespace Go.Proofs.Yticnfjoodcacmaa
/-- The row, under a short name, for the claim. -/
theorem demandKnown_holds : Rows.DemandKnownSaid := Pure.over
end Go.Proofs.Yticnfjoodcacmaa
#print axioms Go.Proofs.Yticnfjoodcacmaa.demandKnown_holds
namespace Go.Proofs.Yticnfjoodcacmaa.Pure

end Go.Proofs.Yticnfjoodcacmaa.Pure
