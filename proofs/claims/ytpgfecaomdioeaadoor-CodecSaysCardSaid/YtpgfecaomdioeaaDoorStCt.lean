/- law26's awake, by hand. -/
-- slim
import Derived.Test.YtpgfecaomdioeaaDoorPCtx2
import Derived.Test.YtpgfecaomdioeaaDoorCodA
namespace Go.Proofs.YtpgfecaomdioeaaDoor.PCt
open Go.RowKit Go.Proofs.YtpgfecaomdioeaaDoor.PCt Go.Proofs.YtpgfecaomdioeaaDoorW.PrintWords Go.Proofs.YtpgfecaomdioeaaDoorW.PrintLast Go.Proofs.YtpgfecaomdioeaaDoorW.PrintMore 
set_option linter.unusedVariables false
set_option linter.unusedSimpArgs false

set_option maxHeartbeats 8000000 in
set_option maxRecDepth 100000 in
theorem awake_any (w : World) : Calls Tryd.prog 6 #[] w fun e w' => e = .returned (.bool true) ∧ Below w.heap.size w w' := by
 have HB := Aside0.mk (Below.refl w.heap.size w)
 have CP : Aside0 (∀ W, Below w.heap.size w W → Calls Tryd.prog 10 #[.slice (some ⟨W.heap.size, 0, none⟩) 3 3] (W.alloc (.cells #[.int .i64 0, .int .i64 0, .int .i64 (-1)] 3)) fun e w' => ∃ A c, e = .returned (.slice A 8 c) ∧ Aside0 (Kd.C (Kd.int .u8) w' A 8 (putT [0, 0, -1]) ∧ 8 ≤ c) ∧ Below w.heap.size w w') :=
  ⟨fun W hb => (codec_PutTrace.calls 100000 _ _ [0, 0, -1] _ _ (raw_C W [0, 0, -1] (by unfold maxLen; decide)) (Nat.le_refl _) (PutTrace_is _ (by decide) _ (Nat.le_refl _))).mono (by
   rintro e w' ⟨v, rfl, hR, hb'⟩
   obtain ⟨A, c, rfl⟩ := Kd.R_slice hR
   have hl := put_len
   have h1 := (Kd.R_reads' hR).2
   rw [hl] at h1 ⊢
   exact ⟨A, c, rfl, ⟨h1.2, h1.1⟩, below_step (below_alloc hb _) hb'⟩)⟩
 have CG : Aside0 (∀ W A c, Below w.heap.size w W → Aside0 (Kd.C (Kd.int .u8) W A 8 (putT [0, 0, -1]) ∧ 8 ≤ c) → Calls Tryd.prog 7 #[.slice A 8 c] W fun e w' => ∃ A' c', e = .returned (.tuple #[.slice A' 3 c', .int .i64 0]) ∧ Aside0 (Kd.C (Kd.int .i64) w' A' 3 [0, 0, -1] ∧ 3 ≤ c') ∧ Below w.heap.size w w') :=
  ⟨fun W A c hb hC => (show Calls Tryd.prog 7 #[.slice A 8 c] W _ from put_len ▸ (codec_GetTrace.calls A c (putT [0, 0, -1]) [0, 0, -1] 0 W (by rw [put_len]; exact hC.out.1) (by rw [put_len]; exact hC.out.2) (getTrace_put _ (by decide +kernel))).mono (by
   rintro e w' ⟨v, rfl, hR, hb'⟩
   obtain ⟨A, c, rfl⟩ := Kd.R_slice hR
   exact ⟨A, c, rfl, ⟨(Kd.R_reads' hR).2.2, (Kd.R_reads' hR).2.1⟩, below_step hb hb'⟩))⟩
 have CS : Aside0 (∀ W : World, Calls Tryd.prog 11 #[.slice (some ⟨W.heap.size, 0, none⟩) 2 2] (W.alloc (.cells #[.int .u8 97, .int .u8 98] 5 (2, 3))) fun e w' => e = .returned (.int .u32 19136707) ∧ Drawn0 (W.alloc (.cells #[.int .u8 97, .int .u8 98] 5 (2, 3))) w') :=
  ⟨fun W => codec_Sum.calls 5 _ 2 [97, 98] 19136707 _ (ab_C W) (Nat.le_refl _) ((Sum_is [97, 98] (by decide) 5 (by decide)).trans (by decide))⟩
 have CI : Aside0 (∀ (W W1 : World) (A : Option Addr) (c n : Nat), W.heap.size = n → Kd.C (Kd.int .i64) W1 A 3 [0, 0, -1] ∧ 3 ≤ c → (∀ O, Kd.C (Kd.int .i64) W1 A 3 [0, 0, -1] → Kd.C (Kd.int .i64) (W.alloc O) A 3 [0, 0, -1]) → Calls Tryd.prog 15 #[.slice A 3 c, .slice (some ⟨n, 0, none⟩) 3 3] (W.alloc (.cells #[.int .i64 0, .int .i64 0, .int .i64 (-1)] 3)) fun e w' => e = .returned (.bool true) ∧ Drawn0 (W.alloc (.cells #[.int .i64 0, .int .i64 0, .int .i64 (-1)] 3)) w') :=
  ⟨fun W W1 A c n hn hC hk => hn ▸ tocsinlaw26_ints.calls 5 A c [0, 0, -1] _ 3 [0, 0, -1] true _ (hk _ hC.1) hC.2 (raw_C W [0, 0, -1] (by unfold maxLen; decide)) (Nat.le_refl _) (ints_is _ _ (by decide) 5 (by decide))⟩
 go_enter Tryd.func6, Tryd.ntmps6
 go_wp2_with (first | (go_at_call 10; (with_reducible refine (CP.out _ HB.out).mono ?_); rintro e w1 ⟨A, c, rfl, HC1, hb⟩; have n0_ := Aside0.mk hb; clear HB; have HB := n0_; clear n0_ hb) | (go_at_call 7; (with_reducible refine (CG.out _ _ _ HB.out HC1).mono ?_); rintro e w2 ⟨A', c', rfl, HC2, hb⟩; have n0_ := Aside0.mk hb; clear HB; have HB := n0_; clear n0_ hb; have hcv := Lib.run_convert_bytes_const w2 27 5 #[.int .u8 97, .int .u8 98] 2 2 Tryd.underlying27 Tryd.underlying5) | (go_at_call 11; (with_reducible refine (CS.out _).mono ?_); rintro e w3 ⟨rfl, ⟨nd, rfl⟩⟩) | (go_at_call 15; (with_reducible refine (CI.out _ w2 _ _ _ ?sn HC2.out ?sk).mono ?_); (case sn => simp); (case sk => intro O h; repeat (first | exact h | (with_reducible refine Kd.C_alloc ?_ _) | (with_reducible refine Kd.C_drewN ?_ _))); rintro e w4 ⟨rfl, ⟨nd', rfl⟩⟩))
 go_ret
 exact ⟨rfl, pw_below_drewN (below_alloc (pw_below_drewN (below_alloc HB.out _) _) _) _⟩
def tocsinlaw26_awake.f : Option Bool := some true
theorem tocsinlaw26_awake.calls (r : Bool) (w : World) (h : tocsinlaw26_awake.f = some r) : Calls Tryd.prog 6 #[] w fun e w' => e = .returned (.bool r) ∧ Below w.heap.size w w' := by
 obtain rfl := Option.some.inj h
 exact awake_any w

end Go.Proofs.YtpgfecaomdioeaaDoor.PCt
