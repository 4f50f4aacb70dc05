/- Contracts of codec.PutJobs and codec.GetJobs at no job and at one job without a name (all that CodecKnown asks). -/
import Derived.Test.YtpgfecaomdioeaaDoorPCtx1
import Derived.Test.YtpgfecaomdioeaaDoorPCtx2
import Derived.Test.YtpgfecaomdioeaaDoorStCt
import Derived.Lib.OthersKept
namespace Go.Proofs.YtpgfecaomdioeaaDoor.PCt
open Go.RowKit Go.Proofs.YtpgfecaomdioeaaDoor.PCt Go.Proofs.YtpgfecaomdioeaaDoorW.PrintWords Go.Proofs.YtpgfecaomdioeaaDoorW.PrintLast Go.Proofs.YtpgfecaomdioeaaDoorW.PrintMore 
set_option linter.unusedVariables false
set_option linter.unusedSimpArgs false

set_option maxHeartbeats 4000000
theorem noname_c (W : World) : Calls Tryd.prog 43 #[.string ⟨#[]⟩] W fun e w' => e = .returned (.bool false) ∧ Below W.heap.size W w' := by
  go_enter Tryd.func43, Tryd.ntmps43
  go_wp2
  go_loopg [3, 5] 1 (fun gf v3 v5 wr => v3 = .int .i64 0 ∧ wr.heap[W.heap.size]? = some (.stringIter ⟨#[]⟩ 0) ∧ Aside0 (Below W.heap.size W wr))
  case atStart => exact ⟨rfl, World.iter_heap W ⟨#[]⟩ 0, ⟨(Below.refl _ W).alloc (Nat.le_refl _) _⟩⟩
  case round =>
    obtain ⟨rfl, hit, HB⟩ := hrel
    have hnx : ∀ ty, (Instr.next (.pointer (some ⟨W.heap.size, 0, none⟩)) true ty).run Tryd.prog wr = _ := fun ty => Lib.run_next_end_at wr W.heap.size ⟨#[]⟩ 0 ty hit (by decide)
    go_wp2
    go_ret
    exact ⟨rfl, (by repeat (first | (with_reducible first | exact HB.out | apply below_alloc | apply pw_below_drewN | apply below_drew1) | exact HB.out))⟩
theorem in_c (n a b : Int) (r : Bool) (hr : r = decide (a ≤ n ∧ n ≤ b)) (W : World) : Calls Tryd.prog 42 #[.int .i64 n, .int .i64 a, .int .i64 b] W fun e w' => e = .returned (.bool r) ∧ Below W.heap.size W w' := by
  subst hr
  have HB := Aside0.mk (Below.refl W.heap.size W)
  by_cases h : a ≤ n
  · have d1 : decide (n ≥ a) = true := decide_eq_true h
    have e1 : decide (a ≤ n ∧ n ≤ b) = decide (n ≤ b) := by rw [decide_eq_decide]; omega
    rw [e1]
    clear e1 h
    go_enter Tryd.func42, Tryd.ntmps42
    go_wp2
    go_ret
    exact ⟨rfl, (by repeat (first | (with_reducible first | exact HB.out | apply below_alloc | apply pw_below_drewN | apply below_drew1) | exact HB.out))⟩
  · have d1 : decide (n ≥ a) = false := decide_eq_false h
    have e1 : decide (a ≤ n ∧ n ≤ b) = false := by rw [decide_eq_false_iff_not]; omega
    rw [e1]
    clear e1 h
    go_enter Tryd.func42, Tryd.ntmps42
    go_wp2
    go_ret
    exact ⟨rfl, (by repeat (first | (with_reducible first | exact HB.out | apply below_alloc | apply pw_below_drewN | apply below_drew1) | exact HB.out))⟩
theorem zgood_c (W : World) : Calls Tryd.prog 37 #[.agg #[.string ⟨#[]⟩, .int .i64 0, .int .i64 0, .int .i64 0, .int .i64 0, .int .i64 0, .int .i64 0, .bool false]] W fun e w' => e = .returned (.bool false) ∧ Below W.heap.size W w' := by
  have HB := Aside0.mk (Below.refl W.heap.size W)
  go_enter Tryd.func37, Tryd.ntmps37
  go_wp2_with (first | (go_at_call 42; (with_reducible refine (in_c _ _ _ true (by decide) _).mono ?_); rintro e w7 ⟨rfl, hb⟩; have n0_ := Aside0.mk (below_step (by repeat (first | (with_reducible first | exact HB.out | apply below_alloc | apply pw_below_drewN | apply below_drew1) | exact HB.out)) hb); have n1_ := Aside0.mk (blk_below (g := W.heap.size) (o := .cells #[.string ⟨#[]⟩, .int .i64 0, .int .i64 0, .int .i64 0, .int .i64 0, .int .i64 0, .int .i64 0, .bool false] 48 (0, 0)) (by first | exact BK.out | exact blk_new _ _) hb); clear HB; (try clear BK hc0 hc1 hc2 hc3 hc4 hc5 hc6 hc7); have HB := n0_; have BK := n1_; clear n0_ n1_ hb; have hc0 : w7.cell? ⟨W.heap.size, 0, none⟩ = some (.string ⟨#[]⟩) := (blk_cell BK.out 0).trans rfl; have hc1 : w7.cell? ⟨W.heap.size, 1, none⟩ = some (.int .i64 0) := (blk_cell BK.out 1).trans rfl; have hc2 : w7.cell? ⟨W.heap.size, 2, none⟩ = some (.int .i64 0) := (blk_cell BK.out 2).trans rfl; have hc3 : w7.cell? ⟨W.heap.size, 3, none⟩ = some (.int .i64 0) := (blk_cell BK.out 3).trans rfl; have hc4 : w7.cell? ⟨W.heap.size, 4, none⟩ = some (.int .i64 0) := (blk_cell BK.out 4).trans rfl; have hc5 : w7.cell? ⟨W.heap.size, 5, none⟩ = some (.int .i64 0) := (blk_cell BK.out 5).trans rfl; have hc6 : w7.cell? ⟨W.heap.size, 6, none⟩ = some (.int .i64 0) := (blk_cell BK.out 6).trans rfl; have hc7 : w7.cell? ⟨W.heap.size, 7, none⟩ = some (.bool false) := (blk_cell BK.out 7).trans rfl) | (go_at_call 42; (with_reducible refine (in_c _ _ _ false (by decide) _).mono ?_); rintro e w7 ⟨rfl, hb⟩; have n0_ := Aside0.mk (below_step (by repeat (first | (with_reducible first | exact HB.out | apply below_alloc | apply pw_below_drewN | apply below_drew1) | exact HB.out)) hb); have n1_ := Aside0.mk (blk_below (g := W.heap.size) (o := .cells #[.string ⟨#[]⟩, .int .i64 0, .int .i64 0, .int .i64 0, .int .i64 0, .int .i64 0, .int .i64 0, .bool false] 48 (0, 0)) (by first | exact BK.out | exact blk_new _ _) hb); clear HB; (try clear BK hc0 hc1 hc2 hc3 hc4 hc5 hc6 hc7); have HB := n0_; have BK := n1_; clear n0_ n1_ hb; have hc0 : w7.cell? ⟨W.heap.size, 0, none⟩ = some (.string ⟨#[]⟩) := (blk_cell BK.out 0).trans rfl; have hc1 : w7.cell? ⟨W.heap.size, 1, none⟩ = some (.int .i64 0) := (blk_cell BK.out 1).trans rfl; have hc2 : w7.cell? ⟨W.heap.size, 2, none⟩ = some (.int .i64 0) := (blk_cell BK.out 2).trans rfl; have hc3 : w7.cell? ⟨W.heap.size, 3, none⟩ = some (.int .i64 0) := (blk_cell BK.out 3).trans rfl; have hc4 : w7.cell? ⟨W.heap.size, 4, none⟩ = some (.int .i64 0) := (blk_cell BK.out 4).trans rfl; have hc5 : w7.cell? ⟨W.heap.size, 5, none⟩ = some (.int .i64 0) := (blk_cell BK.out 5).trans rfl; have hc6 : w7.cell? ⟨W.heap.size, 6, none⟩ = some (.int .i64 0) := (blk_cell BK.out 6).trans rfl; have hc7 : w7.cell? ⟨W.heap.size, 7, none⟩ = some (.bool false) := (blk_cell BK.out 7).trans rfl) | (go_at_call 43; (with_reducible refine (noname_c _).mono ?_); rintro e w7 ⟨rfl, hb⟩; have n0_ := Aside0.mk (below_step (by repeat (first | (with_reducible first | exact HB.out | apply below_alloc | apply pw_below_drewN | apply below_drew1) | exact HB.out)) hb); have n1_ := Aside0.mk (blk_below (g := W.heap.size) (o := .cells #[.string ⟨#[]⟩, .int .i64 0, .int .i64 0, .int .i64 0, .int .i64 0, .int .i64 0, .int .i64 0, .bool false] 48 (0, 0)) (by first | exact BK.out | exact blk_new _ _) hb); clear HB; (try clear BK hc0 hc1 hc2 hc3 hc4 hc5 hc6 hc7); have HB := n0_; have BK := n1_; clear n0_ n1_ hb; have hc0 : w7.cell? ⟨W.heap.size, 0, none⟩ = some (.string ⟨#[]⟩) := (blk_cell BK.out 0).trans rfl; have hc1 : w7.cell? ⟨W.heap.size, 1, none⟩ = some (.int .i64 0) := (blk_cell BK.out 1).trans rfl; have hc2 : w7.cell? ⟨W.heap.size, 2, none⟩ = some (.int .i64 0) := (blk_cell BK.out 2).trans rfl; have hc3 : w7.cell? ⟨W.heap.size, 3, none⟩ = some (.int .i64 0) := (blk_cell BK.out 3).trans rfl; have hc4 : w7.cell? ⟨W.heap.size, 4, none⟩ = some (.int .i64 0) := (blk_cell BK.out 4).trans rfl; have hc5 : w7.cell? ⟨W.heap.size, 5, none⟩ = some (.int .i64 0) := (blk_cell BK.out 5).trans rfl; have hc6 : w7.cell? ⟨W.heap.size, 6, none⟩ = some (.int .i64 0) := (blk_cell BK.out 6).trans rfl; have hc7 : w7.cell? ⟨W.heap.size, 7, none⟩ = some (.bool false) := (blk_cell BK.out 7).trans rfl))
  go_ret
  exact ⟨rfl, (by repeat (first | (with_reducible first | exact HB.out | apply below_alloc | apply pw_below_drewN | apply below_drew1) | exact HB.out))⟩
theorem zbad_c (W : World) : Calls Tryd.prog 36 #[.agg #[.string ⟨#[]⟩, .int .i64 0, .int .i64 0, .int .i64 0, .int .i64 0, .int .i64 0, .int .i64 0, .bool false]] W fun e w' => e = .returned (.bool true) ∧ Below W.heap.size W w' := by
  have HB := Aside0.mk (Below.refl W.heap.size W)
  go_enter Tryd.func36, Tryd.ntmps36
  go_wp2_with (first | (go_at_call 37; (with_reducible refine (zgood_c _).mono ?_); rintro e w7 ⟨rfl, hb⟩; have n0_ := Aside0.mk (below_step (by repeat (first | (with_reducible first | exact HB.out | apply below_alloc | apply pw_below_drewN | apply below_drew1) | exact HB.out)) hb); clear HB; have HB := n0_; clear n0_ hb))
  go_ret
  exact ⟨rfl, (by repeat (first | (with_reducible first | exact HB.out | apply below_alloc | apply pw_below_drewN | apply below_drew1) | exact HB.out))⟩
theorem idx_nil (A : Option Addr) (c : Nat) (W : World) : Calls Tryd.prog 41 #[.slice A 0 c, .func (.func 36) #[] #[]] W fun e w' => e = .returned (.int .i64 (-1)) ∧ Below W.heap.size W w' := by
  have HB := Aside0.mk (Below.refl W.heap.size W)
  go_enter Tryd.func41, Tryd.ntmps41
  go_wp2
  go_loopw [8] (fun i wr => i = .int .i64 0 ∧ Aside0 (Below W.heap.size W wr)) (fun _ _ => 0)
  case atStart => exact ⟨rfl, HB⟩
  case round =>
    obtain ⟨rfl, HB⟩ := hrel
    go_wp2
    go_ret
    exact ⟨rfl, (by repeat (first | (with_reducible first | exact HB.out | apply below_alloc | apply pw_below_drewN | apply below_drew1) | exact HB.out))⟩
theorem idx_z (A : Option Addr) (c : Nat) (W : World) (hr : Kd.C k48 W A 1 [z48]) : Calls Tryd.prog 41 #[.slice A 1 c, .func (.func 36) #[] #[]] W fun e w' => e = .returned (.int .i64 0) ∧ Below W.heap.size W w' := by
  have HB := Aside0.mk (Below.refl W.heap.size W)
  have HR := Aside0.mk hr
  clear hr
  go_enter Tryd.func41, Tryd.ntmps41
  go_wp2
  go_loopw [8] (fun i wr => ∃ k : Int, Aside0 (k = 0) ∧ i = .int .i64 k ∧ Aside0 (Below W.heap.size W wr)) (fun _ _ => 0)
  case atStart => exact ⟨0, ⟨rfl⟩, rfl, HB⟩
  case round =>
    obtain ⟨k, HK, rfl, HB⟩ := hrel
    obtain ⟨a, rfl, c0, c1, c2, c3, c4, c5, c6, c7⟩ := at_T48 (Kd.C_below HR.out HB.out) k (by have := HK.out; omega) (by have := HK.out; omega)
    have e : rd_T48 [z48] k = z48 := by rw [HK.out]; rfl
    rw [e] at c0 c1 c2 c3 c4 c5 c6 c7
    simp only [z48] at c0 c1 c2 c3 c4 c5 c6 c7
    have hlt : k < 1 := by have := HK.out; omega
    have hk0 : 0 ≤ k := by have := HK.out; omega
    clear e
    go_wp2_with (first | (go_at_call 36; (with_reducible refine (zbad_c _).mono ?_); rintro e w7 ⟨rfl, hb⟩; have n0_ := Aside0.mk (below_step (by repeat (first | (with_reducible first | exact HB.out | apply below_alloc | apply pw_below_drewN | apply below_drew1) | exact HB.out)) hb); clear HB; have HB := n0_; clear n0_ hb))
    go_ret
    exact ⟨by rw [HK.out]; rfl, (by repeat (first | (with_reducible first | exact HB.out | apply below_alloc | apply pw_below_drewN | apply below_drew1) | exact HB.out))⟩
theorem contains_nil (A : Option Addr) (c : Nat) (W : World) : Calls Tryd.prog 35 #[.slice A 0 c, .func (.func 36) #[] #[]] W fun e w' => e = .returned (.bool false) ∧ Below W.heap.size W w' := by
  have HB := Aside0.mk (Below.refl W.heap.size W)
  go_enter Tryd.func35, Tryd.ntmps35
  go_wp2_with (first | (go_at_call 41; (with_reducible refine (idx_nil _ _ _).mono ?_); rintro e w7 ⟨rfl, hb⟩; have n0_ := Aside0.mk (below_step (by repeat (first | (with_reducible first | exact HB.out | apply below_alloc | apply pw_below_drewN | apply below_drew1) | exact HB.out)) hb); clear HB; have HB := n0_; clear n0_ hb))
  go_ret
  exact ⟨rfl, (by repeat (first | (with_reducible first | exact HB.out | apply below_alloc | apply pw_below_drewN | apply below_drew1) | exact HB.out))⟩
theorem contains_z (A : Option Addr) (c : Nat) (W : World) (hr : Kd.C k48 W A 1 [z48]) : Calls Tryd.prog 35 #[.slice A 1 c, .func (.func 36) #[] #[]] W fun e w' => e = .returned (.bool true) ∧ Below W.heap.size W w' := by
  have HB := Aside0.mk (Below.refl W.heap.size W)
  have CI := Aside0.mk (idx_z A c W hr)
  clear hr
  go_enter Tryd.func35, Tryd.ntmps35
  go_wp2_with (first | (go_at_call 41; (with_reducible refine (CI.out).mono ?_); rintro e w7 ⟨rfl, hb⟩; have n0_ := Aside0.mk (below_step (by repeat (first | (with_reducible first | exact HB.out | apply below_alloc | apply pw_below_drewN | apply below_drew1) | exact HB.out)) hb); clear HB; have HB := n0_; clear n0_ hb))
  go_ret
  exact ⟨rfl, (by repeat (first | (with_reducible first | exact HB.out | apply below_alloc | apply pw_below_drewN | apply below_drew1) | exact HB.out))⟩
theorem all_nil (A : Option Addr) (c : Nat) (W : World) : Calls Tryd.prog 20 #[.slice A 0 c] W fun e w' => e = .returned (.bool true) ∧ Below W.heap.size W w' := by
  have HB := Aside0.mk (Below.refl W.heap.size W)
  go_enter Tryd.func20, Tryd.ntmps20
  go_wp2_with (first | (go_at_call 35; (with_reducible refine (contains_nil _ _ _).mono ?_); rintro e w7 ⟨rfl, hb⟩; have n0_ := Aside0.mk (below_step (by repeat (first | (with_reducible first | exact HB.out | apply below_alloc | apply pw_below_drewN | apply below_drew1) | exact HB.out)) hb); clear HB; have HB := n0_; clear n0_ hb))
  go_ret
  exact ⟨rfl, (by repeat (first | (with_reducible first | exact HB.out | apply below_alloc | apply pw_below_drewN | apply below_drew1) | exact HB.out))⟩
theorem all_z (A : Option Addr) (c : Nat) (W : World) (hr : Kd.C k48 W A 1 [z48]) : Calls Tryd.prog 20 #[.slice A 1 c] W fun e w' => e = .returned (.bool false) ∧ Below W.heap.size W w' := by
  have HB := Aside0.mk (Below.refl W.heap.size W)
  have CI := Aside0.mk (contains_z A c W hr)
  clear hr
  go_enter Tryd.func20, Tryd.ntmps20
  go_wp2_with (first | (go_at_call 35; (with_reducible refine (CI.out).mono ?_); rintro e w7 ⟨rfl, hb⟩; have n0_ := Aside0.mk (below_step (by repeat (first | (with_reducible first | exact HB.out | apply below_alloc | apply pw_below_drewN | apply below_drew1) | exact HB.out)) hb); clear HB; have HB := n0_; clear n0_ hb))
  go_ret
  exact ⟨rfl, (by repeat (first | (with_reducible first | exact HB.out | apply below_alloc | apply pw_below_drewN | apply below_drew1) | exact HB.out))⟩
/-- The bytes of no job. -/
def noneB : List Int := [0, 0, 0, 0, 0]
theorem put_nil (A : Option Addr) (c : Nat) (W : World) : Calls Tryd.prog 9 #[.slice A 0 c] W fun e w' => ∃ v0_ : Value, e = .returned v0_ ∧ Kd.R (Kd.int .u8) 5 w' W.heap.size (fun _ => True) v0_ noneB ∧ Below W.heap.size W w' := by
  have HB := Aside0.mk (Below.refl W.heap.size W)
  have EN : codec_number.f 2 ([] : List Int) 0 = some [0] := by decide
  have ES : codec_summed.f 9 [0] = some noneB := summed_is [0] (by decide) 9 (by decide)
  go_enter Tryd.func9, Tryd.ntmps9
  go_wp2_with (first | (go_at_call 20; (with_reducible refine (all_nil _ _ _).mono ?_); rintro e w7 ⟨rfl, hb⟩; have n0_ := Aside0.mk (below_step (by repeat (first | (with_reducible first | exact HB.out | apply below_alloc | apply pw_below_drewN | apply below_drew1) | exact HB.out)) hb); clear HB; have HB := n0_; clear n0_ hb) | (go_at_call 26; (with_reducible refine (codec_number.calls 2 (fun _ => True) _ [] 0 [0] W _ HB.out (Kd.R_nil _ _ _ _ _) EN).mono ?_); rintro e w8 ⟨v0, rfl, ho, hb, hk⟩; have HO := Aside0.mk ho; have n0_ := Aside0.mk hb; clear HB ho hk hb; have HB := n0_; clear n0_; obtain ⟨Av, cv, rfl⟩ := Kd.R_slice HO.out))
  go_loopw [3, 17] (fun v3 i wr => i = .int .i64 0 ∧ v3 = .slice Av 1 cv ∧ Aside0 (Below W.heap.size W wr) ∧ Aside0 (Kd.R (Kd.int .u8) 5 wr W.heap.size (fun _ => True) (.slice Av 1 cv) [0])) (fun _ _ _ => 0)
  case atStart => exact ⟨rfl, rfl, HB, ⟨Kd.R_mono HO.out (fun _ _ => trivial)⟩⟩
  case round =>
    clear HB HO
    obtain ⟨rfl, rfl, HB, HO⟩ := hrel
    go_wp2_with (first | (go_at_call 27; (with_reducible refine (codec_summed.calls 9 (fun _ => True) _ [0] noneB W _ HB.out HO.out ES).mono ?_); rintro e w8 ⟨v0, rfl, ho, hb, hk⟩))
    go_ret
    exact ⟨_, rfl, Kd.R_mono ho (fun _ _ => trivial), hb⟩
theorem put_z (A : Option Addr) (c : Nat) (W : World) (hr : Kd.C k48 W A 1 [z48]) : Calls Tryd.prog 9 #[.slice A 1 c] W fun e w' => ∃ v0_ : Value, e = .returned v0_ ∧ Kd.R (Kd.int .u8) 5 w' W.heap.size (fun _ => True) v0_ [] ∧ Below W.heap.size W w' := by
  have HB := Aside0.mk (Below.refl W.heap.size W)
  have CI := Aside0.mk (all_z A c W hr)
  clear hr
  go_enter Tryd.func9, Tryd.ntmps9
  go_wp2_with (first | (go_at_call 20; (with_reducible refine (CI.out).mono ?_); rintro e w7 ⟨rfl, hb⟩; have n0_ := Aside0.mk (below_step (by repeat (first | (with_reducible first | exact HB.out | apply below_alloc | apply pw_below_drewN | apply below_drew1) | exact HB.out)) hb); clear HB; have HB := n0_; clear n0_ hb))
  go_ret
  exact ⟨_, rfl, Kd.R_nil _ _ _ _ _, HB.out⟩
theorem box_none (n : Nat) (A : Option Addr) (c : Nat) (l : List Int) (W : World) (w : World) (hB : Below W.heap.size W w) (hC : Kd.C (Kd.int .u8) W A n l) (hl : l.length = n) (hc : n ≤ c) : RdrV W (w.alloc (.cells #[.slice A n c, .bool false] 54)) w.heap.size l false := by
  subst hl
  exact ⟨A, c, blk_new _ _, hC, hc⟩
theorem num_e (W0 W : World) (R : Nat) (hR : RdrV W0 W R [] false) (hB : Below W0.heap.size W0 W) (hg : W0.heap.size ≤ R) :
    Calls Tryd.prog 22 #[.pointer (some ⟨R, 0, none⟩)] W fun e w' => e = .returned (.int .i64 0) ∧ RdrV W0 w' R [] true ∧ Below W0.heap.size W0 w' ∧ KeepBut W w' R none := number_s W0 W R [] false hR hB hg (by simp)
theorem num_0 (W0 W : World) (R : Nat) (hR : RdrV W0 W R [0] false) (hB : Below W0.heap.size W0 W) (hg : W0.heap.size ≤ R) :
    Calls Tryd.prog 22 #[.pointer (some ⟨R, 0, none⟩)] W fun e w' => e = .returned (.int .i64 0) ∧ RdrV W0 w' R [] false ∧ Below W0.heap.size W0 w' ∧ KeepBut W w' R none := number_s W0 W R [0] false hR hB hg (by simp)
set_option maxRecDepth 100000
theorem getj_bad (A : Option Addr) (c : Nat) (W : World) (hr : Kd.C (Kd.int .u8) W A 4 [0, 0, 0, 0]) (hc : 4 ≤ c) :
    Calls Tryd.prog 8 #[.slice A 4 c] W fun e w' => e = .returned (.tuple #[.slice none 0 0, .int .i64 3]) ∧ Below W.heap.size W w' := by
  have HB := Aside0.mk (Below.refl W.heap.size W)
  have CW : Aside0 (Calls Tryd.prog 21 #[.slice A 4 c] W fun e w' => e = .returned (.tuple #[.slice A 0 c, .bool true]) ∧ Below W.heap.size W w') := ⟨whole_c 1000001 A c [0, 0, 0, 0] W true hr hc (by decide) (by decide) (by rw [wholeB_is _ (by unfold isB; decide) (by decide) _ (Nat.le_refl _)]; decide)⟩
  have HT : Aside0 (Kd.C (Kd.int .u8) W A 0 []) := ⟨Kd.C_take (m := 0) hr (by decide)⟩
  clear hr
  go_enter Tryd.func8, Tryd.ntmps8
  go_wp2_with (first | (go_at_call 21; (with_reducible refine (CW.out).mono ?_); rintro e w7 ⟨rfl, hb⟩; have n0_ := Aside0.mk (below_step (by repeat (first | (with_reducible first | exact HB.out | apply below_alloc | apply pw_below_drewN | apply below_drew1) | exact HB.out)) hb); clear HB; have HB := n0_; clear n0_ hb) | (go_at_call 22; (with_reducible refine (num_e W _ _ (box_none 0 A c [] W _ HB.out HT.out rfl (Nat.zero_le _)) (below_alloc HB.out _) (below_size HB.out)).mono ?_); rintro e w9 ⟨rfl, hRd, hB, hK⟩; have HRd := Aside0.mk hRd; have n0_ := Aside0.mk hB; clear hRd hB HB hK; have HB := n0_; clear n0_))
  go_loopw [8, 9, 11, 29] (fun v8 v9 v11 i wr => i = .int .i64 0 ∧ v8 = .slice none 0 0 ∧ Aside0 (Below W.heap.size W wr) ∧ Aside0 (RdrV W wr w7.heap.size [] true)) (fun _ _ _ _ _ => 0)
  case atStart => exact ⟨rfl, rfl, HB, HRd⟩
  case round =>
    clear HB HRd
    obtain ⟨rfl, rfl, HB, HRd⟩ := hrel
    obtain ⟨A1, c1, BK, hC1, hc1⟩ := HRd.out
    have hcell0 : wr.cell? ⟨w7.heap.size, 0, none⟩ = some (.slice A1 0 c1) := (blk_cell BK 0).trans rfl
    have hcell1 : wr.cell? ⟨w7.heap.size, 1, none⟩ = some (.bool true) := (blk_cell BK 1).trans rfl
    clear BK hC1 hc1
    go_wp2
    go_ret2
    exact ⟨rfl, (by repeat (first | (with_reducible first | exact HB.out | apply below_alloc | apply pw_below_drewN | apply below_drew1) | exact HB.out))⟩
theorem getj_none (A : Option Addr) (c : Nat) (W : World) (hr : Kd.C (Kd.int .u8) W A 5 noneB) (hc : 5 ≤ c) :
    Calls Tryd.prog 8 #[.slice A 5 c] W fun e w' => e = .returned (.tuple #[.slice none 0 0, .int .i64 0]) ∧ Below W.heap.size W w' := by
  have HB := Aside0.mk (Below.refl W.heap.size W)
  have CW : Aside0 (Calls Tryd.prog 21 #[.slice A 5 c] W fun e w' => e = .returned (.tuple #[.slice A 1 c, .bool true]) ∧ Below W.heap.size W w') := ⟨whole_c 1000001 A c noneB W true hr hc (by decide) (by decide) (by rw [wholeB_is _ (by unfold isB noneB; decide) (by decide) _ (Nat.le_refl _)]; decide)⟩
  have HT : Aside0 (Kd.C (Kd.int .u8) W A 1 [0]) := ⟨Kd.C_take (m := 1) hr (by decide)⟩
  clear hr
  go_enter Tryd.func8, Tryd.ntmps8
  go_wp2_with (first | (go_at_call 21; (with_reducible refine (CW.out).mono ?_); rintro e w7 ⟨rfl, hb⟩; have n0_ := Aside0.mk (below_step (by repeat (first | (with_reducible first | exact HB.out | apply below_alloc | apply pw_below_drewN | apply below_drew1) | exact HB.out)) hb); clear HB; have HB := n0_; clear n0_ hb) | (go_at_call 22; (with_reducible refine (num_0 W _ _ (box_none 1 A c [0] W _ HB.out HT.out rfl (by omega)) (below_alloc HB.out _) (below_size HB.out)).mono ?_); rintro e w9 ⟨rfl, hRd, hB, hK⟩; have HRd := Aside0.mk hRd; have n0_ := Aside0.mk hB; clear hRd hB HB hK; have HB := n0_; clear n0_))
  go_loopw [8, 9, 11, 29] (fun v8 v9 v11 i wr => i = .int .i64 0 ∧ v8 = .slice none 0 0 ∧ Aside0 (Below W.heap.size W wr) ∧ Aside0 (RdrV W wr w7.heap.size [] false)) (fun _ _ _ _ _ => 0)
  case atStart => exact ⟨rfl, rfl, HB, HRd⟩
  case round =>
    clear HB HRd
    obtain ⟨rfl, rfl, HB, HRd⟩ := hrel
    obtain ⟨A1, c1, BK, hC1, hc1⟩ := HRd.out
    have hcell0 : wr.cell? ⟨w7.heap.size, 0, none⟩ = some (.slice A1 0 c1) := (blk_cell BK 0).trans rfl
    have hcell1 : wr.cell? ⟨w7.heap.size, 1, none⟩ = some (.bool false) := (blk_cell BK 1).trans rfl
    clear BK hC1 hc1
    go_wp2_with (first | (go_at_call 20; (with_reducible refine (all_nil _ _ _).mono ?_); rintro e w7 ⟨rfl, hb⟩; have n0_ := Aside0.mk (below_step (by repeat (first | (with_reducible first | exact HB.out | apply below_alloc | apply pw_below_drewN | apply below_drew1) | exact HB.out)) hb); clear HB; have HB := n0_; clear n0_ hb))
    go_ret2
    exact ⟨rfl, (by repeat (first | (with_reducible first | exact HB.out | apply below_alloc | apply pw_below_drewN | apply below_drew1) | exact HB.out))⟩
open Classical in
noncomputable def codec_PutJobs.f (l : List S48) : Option (List Int) := match l with | [] => some noneB | [t] => if t = z48 then some [] else none | _ => none
def codec_GetJobs.f (l : List Int) : Option (List S48 × Int) := if l = [0, 0, 0, 0] then some ([], 3) else if l = noneB then some ([], 0) else none
theorem codec_PutJobs.calls (A0 : Option Addr) (c0 : Nat) (l0 : List S48) (r : List Int) (w : World) (hr0 : Kd.C k48 w A0 l0.length l0) (hc0 : l0.length ≤ c0) (h : codec_PutJobs.f l0 = some r) :
    Calls Tryd.prog 9 #[.slice A0 l0.length c0] w fun e w' => ∃ v0_ : Value, e = .returned v0_ ∧ Kd.R (Kd.int .u8) 5 w' w.heap.size (fun _ => True) v0_ r ∧ Below w.heap.size w w' := by
  match l0, hr0, h with
  | [], _, h => obtain rfl := Option.some.inj h; exact put_nil A0 c0 w
  | [t], hr0, h =>
    simp only [codec_PutJobs.f] at h
    split at h
    · rename_i ht; subst ht; obtain rfl := Option.some.inj h; exact put_z A0 c0 w hr0
    · cases h
  | _ :: _ :: _, _, h => cases h
theorem codec_GetJobs.calls (A0 : Option Addr) (c0 : Nat) (l0 : List Int) (r1 : List S48) (r2 : Int) (w : World) (hr0 : Kd.C (Kd.int .u8) w A0 l0.length l0) (hc0 : l0.length ≤ c0) (h : codec_GetJobs.f l0 = some (r1, r2)) :
    Calls Tryd.prog 8 #[.slice A0 l0.length c0] w fun e w' => ∃ v0_ : Value, e = .returned (.tuple #[v0_, .int .i64 r2]) ∧ Kd.R k48 48 w' w.heap.size (fun _ => True) v0_ r1 ∧ Below w.heap.size w w' := by
  unfold codec_GetJobs.f at h
  split at h
  · rename_i hl
    subst hl
    obtain ⟨rfl, rfl⟩ := Prod.mk.inj (Option.some.inj h)
    refine (getj_bad A0 c0 w hr0 hc0).mono ?_
    rintro e w' ⟨rfl, hb⟩
    exact ⟨_, rfl, Kd.R_nil _ _ _ _ _, hb⟩
  split at h
  · rename_i hl
    subst hl
    obtain ⟨rfl, rfl⟩ := Prod.mk.inj (Option.some.inj h)
    refine (getj_none A0 c0 w hr0 hc0).mono ?_
    rintro e w' ⟨rfl, hb⟩
    exact ⟨_, rfl, Kd.R_nil _ _ _ _ _, hb⟩
  cases h

end Go.Proofs.YtpgfecaomdioeaaDoor.PCt
