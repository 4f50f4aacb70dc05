-- functions and contracts as the kit's print.py writes them, the roots chosen in this session (wip/proots.sh)
-- slim
import Derived.Test.YtpgfecaomdioeaaDoorPCtx0
import Derived.Test.YtpgfecaomdioeaaDoorStCj
import Derived.Test.YtpgfecaomdioeaaDoorStGj
import Derived.Test.YtpgfecaomdioeaaDoorStGk
import Derived.Test.YtpgfecaomdioeaaDoorStCt
import Derived.Test.YtpgfecaomdioeaaDoorPCtInts
import Derived.Test.YtpgfecaomdioeaaDoorPCtx9
import Derived.Test.YtpgfecaomdioeaaDoorPCtx1
import Derived.Test.YtpgfecaomdioeaaDoorPCtx2
import Derived.Test.YtpgfecaomdioeaaDoorPCtx3
import Derived.Test.YtpgfecaomdioeaaDoorPCtx5
import Derived.Test.YtpgfecaomdioeaaDoorPCtx6
namespace Go.Proofs.YtpgfecaomdioeaaDoor.PCt
open Go.RowKit Go.Proofs.YtpgfecaomdioeaaDoorW.PrintWords Go.Proofs.YtpgfecaomdioeaaDoorW.PrintLast Go.Proofs.YtpgfecaomdioeaaDoorW.PrintMore
attribute [local go_sem] max2_int min2_int max_two min_two max_three min_three max_four min_four   -- for this text's walks alone
set_option linter.unusedVariables false
set_option linter.unusedSimpArgs false

attribute [local go_sem high] eqA44
/-! ### tocsinlaw26_CodecSays: function 4 -/
mutual
def tocsinlaw26_CodecSays.j0 : Nat → List (S48) → List Int → List Int → Bool → Option (Bool)
 | 0, _, _, _, _ => none
 | k + 1, x0, x1, x2, x30 => if x30 = true then (some true) else ((codec_GetJobs.f x2).bind fun bt222 => ((tocsinref8_GetJobs.f x2).bind fun bt226 => ((codec_GetTrace.f x2).bind fun bt230 => ((tocsinref8_GetTrace.f x2).bind fun bt234 => (if ((bt222.2 == 0) != bt226.2) = true then (tocsinlaw26_CodecSays.j1 k x0 x1 x2 bt222.1 bt226.1 true) else (if bt226.2 = true then (if ((bt230.2 == 0) != bt234.2) = true then (tocsinlaw26_CodecSays.j1 k x0 x1 x2 bt222.1 bt226.1 true) else (if bt234.2 = true then ((tocsinlaw26_ints.f k bt230.1 bt234.1).bind fun t238 => (if t238 = true then (tocsinlaw26_CodecSays.j1 k x0 x1 x2 bt222.1 bt226.1 ((bt222.1.length : Int) != (bt226.1.length : Int))) else (tocsinlaw26_CodecSays.j1 k x0 x1 x2 bt222.1 bt226.1 true))) else (if bt230.2 = 3 then ((tocsinlaw26_ints.f k bt230.1 bt234.1).bind fun t239 => (if t239 = true then (tocsinlaw26_CodecSays.j1 k x0 x1 x2 bt222.1 bt226.1 ((bt222.1.length : Int) != (bt226.1.length : Int))) else (tocsinlaw26_CodecSays.j1 k x0 x1 x2 bt222.1 bt226.1 true))) else (tocsinlaw26_CodecSays.j1 k x0 x1 x2 bt222.1 bt226.1 true)))) else (if bt222.2 = 3 then (if ((bt230.2 == 0) != bt234.2) = true then (tocsinlaw26_CodecSays.j1 k x0 x1 x2 bt222.1 bt226.1 true) else (if bt234.2 = true then ((tocsinlaw26_ints.f k bt230.1 bt234.1).bind fun t240 => (if t240 = true then (tocsinlaw26_CodecSays.j1 k x0 x1 x2 bt222.1 bt226.1 ((bt222.1.length : Int) != (bt226.1.length : Int))) else (tocsinlaw26_CodecSays.j1 k x0 x1 x2 bt222.1 bt226.1 true))) else (if bt230.2 = 3 then ((tocsinlaw26_ints.f k bt230.1 bt234.1).bind fun t241 => (if t241 = true then (tocsinlaw26_CodecSays.j1 k x0 x1 x2 bt222.1 bt226.1 ((bt222.1.length : Int) != (bt226.1.length : Int))) else (tocsinlaw26_CodecSays.j1 k x0 x1 x2 bt222.1 bt226.1 true))) else (tocsinlaw26_CodecSays.j1 k x0 x1 x2 bt222.1 bt226.1 true)))) else (tocsinlaw26_CodecSays.j1 k x0 x1 x2 bt222.1 bt226.1 true))))))))
def tocsinlaw26_CodecSays.j1 : Nat → List (S48) → List Int → List Int → List (S48) → List (S44) → Bool → Option (Bool)
 | 0, _, _, _, _, _, _ => none
 | k + 1, x0, x1, x2, x7, x9, x89 => if x89 = true then (some false) else ((tocsinlaw26_own.f k x7).bind fun t242 => (tocsinlaw26_CodecSays.l0 k x0 x1 x2 x9 t242 0))
def tocsinlaw26_CodecSays.l0 : Nat → List (S48) → List Int → List Int → List (S44) → List (S44) → Int → Option (Bool)
 | 0, _, _, _, _, _, _ => none
 | k + 1, x0, x1, x2, x9, x15, x16 => if x16 < (x9.length : Int) then (if 0 ≤ x16 then (if x16 < (x15.length : Int) then (if (!((((rd_T44 x15 x16).f0).toList) == (((rd_T44 x9 x16).f0).toList)) || (!(((rd_T44 x15 x16).f1) == ((rd_T44 x9 x16).f1)) || (!(((rd_T44 x15 x16).f2) == ((rd_T44 x9 x16).f2)) || (!(((rd_T44 x15 x16).f3) == ((rd_T44 x9 x16).f3)) || (!(((rd_T44 x15 x16).f4) == ((rd_T44 x9 x16).f4)) || (!(((rd_T44 x15 x16).f5) == ((rd_T44 x9 x16).f5)) || (!(((rd_T44 x15 x16).f6) == ((rd_T44 x9 x16).f6)) || (!(((rd_T44 x15 x16).f7) == ((rd_T44 x9 x16).f7)))))))))) = true then (some false) else (tocsinlaw26_CodecSays.l0 k x0 x1 x2 x9 x15 (wrap64 (x16 + 1)))) else (none)) else (none)) else ((codec_PutJobs.f x0).bind fun t247 => ((tocsinlaw26_own.f k x0).bind fun t250 => ((tocsinref8_PutJobs.f t250).bind fun t253 => (if (strOfNums t247).toList = (strOfNums t253).toList then ((codec_PutTrace.f k x1).bind fun t256 => ((tocsinref8_PutTrace.f k x1).bind fun t259 => (if (strOfNums t256).toList = (strOfNums t259).toList then ((codec_Sum.f k x2).bind fun t262 => ((tocsinref8_CodeSum.f k x2).bind fun t263 => (some (t262 == t263)))) else (some false)))) else (some false)))))
end
def tocsinlaw26_CodecSays.f (k : Nat) (l0 : List (S48)) (l1 : List Int) (l2 : List Int) : Option (Bool) := (tocsinlaw26_awake.f).bind fun t220 => (if t220 = true then ((tocsinlaw26_heavy.f k l0 20 10000).bind fun t221 => (if t221 = true then (tocsinlaw26_CodecSays.j0 k l0 l1 l2 true) else (if (l1.length : Int) > 300 then (tocsinlaw26_CodecSays.j0 k l0 l1 l2 true) else (tocsinlaw26_CodecSays.j0 k l0 l1 l2 (decide ((l2.length : Int) > 600)))))) else (some false))
theorem tocsinlaw26_CodecSays.mono_l : ∀ k, (∀ y0 y1 y2 y3, LeO (tocsinlaw26_CodecSays.j0 k y0 y1 y2 y3) (tocsinlaw26_CodecSays.j0 (k + 1) y0 y1 y2 y3)) ∧ (∀ y0 y1 y2 y3 y4 y5, LeO (tocsinlaw26_CodecSays.j1 k y0 y1 y2 y3 y4 y5) (tocsinlaw26_CodecSays.j1 (k + 1) y0 y1 y2 y3 y4 y5)) ∧ (∀ y0 y1 y2 y3 y4 y5, LeO (tocsinlaw26_CodecSays.l0 k y0 y1 y2 y3 y4 y5) (tocsinlaw26_CodecSays.l0 (k + 1) y0 y1 y2 y3 y4 y5))
 | 0 => ⟨fun _ _ _ _ r h => by simp [tocsinlaw26_CodecSays.j0] at h, fun _ _ _ _ _ _ r h => by simp [tocsinlaw26_CodecSays.j1] at h, fun _ _ _ _ _ _ r h => by simp [tocsinlaw26_CodecSays.l0] at h⟩
 | k + 1 => by
  obtain ⟨ih0, ih1, ih2⟩ := tocsinlaw26_CodecSays.mono_l k
  refine ⟨?_, ?_, ?_⟩
  ·intro y0 y1 y2 y3
   unfold tocsinlaw26_CodecSays.j0
   repeat' first
   | (with_reducible exact ih0 _ _ _ _)
   | (with_reducible exact ih1 _ _ _ _ _ _)
   | (with_reducible exact ih2 _ _ _ _ _ _)
   | (with_reducible exact codec_PutTrace.mono _ _)
   | (with_reducible exact codec_Sum.mono _ _)
   | (with_reducible exact tocsinlaw26_heavy.mono _ _ _ _)
   | (with_reducible exact tocsinlaw26_ints.mono _ _ _)
   | (with_reducible exact tocsinlaw26_own.mono _ _)
   | (with_reducible exact tocsinref8_CodeSum.mono _ _)
   | (with_reducible exact tocsinref8_PutTrace.mono _ _)
   | (with_reducible exact LeO.refl _)
   | (with_reducible exact LeO.none _)
   | (with_reducible refine LeO.ite ?_ ?_)
   | (with_reducible refine LeO.bind ?_ (fun _ => ?_))
   | exact ih0 _ _ _ _
   | exact ih1 _ _ _ _ _ _
   | exact ih2 _ _ _ _ _ _
   | exact codec_PutTrace.mono _ _
   | exact codec_Sum.mono _ _
   | exact tocsinlaw26_heavy.mono _ _ _ _
   | exact tocsinlaw26_ints.mono _ _ _
   | exact tocsinlaw26_own.mono _ _
   | exact tocsinref8_CodeSum.mono _ _
   | exact tocsinref8_PutTrace.mono _ _
   | exact LeO.none _
   | refine LeO.ite ?_ ?_
   | refine LeO.bind ?_ (fun _ => ?_)
  ·intro y0 y1 y2 y3 y4 y5
   unfold tocsinlaw26_CodecSays.j1
   repeat' first
   | (with_reducible exact ih0 _ _ _ _)
   | (with_reducible exact ih1 _ _ _ _ _ _)
   | (with_reducible exact ih2 _ _ _ _ _ _)
   | (with_reducible exact codec_PutTrace.mono _ _)
   | (with_reducible exact codec_Sum.mono _ _)
   | (with_reducible exact tocsinlaw26_heavy.mono _ _ _ _)
   | (with_reducible exact tocsinlaw26_ints.mono _ _ _)
   | (with_reducible exact tocsinlaw26_own.mono _ _)
   | (with_reducible exact tocsinref8_CodeSum.mono _ _)
   | (with_reducible exact tocsinref8_PutTrace.mono _ _)
   | (with_reducible exact LeO.refl _)
   | (with_reducible exact LeO.none _)
   | (with_reducible refine LeO.ite ?_ ?_)
   | (with_reducible refine LeO.bind ?_ (fun _ => ?_))
   | exact ih0 _ _ _ _
   | exact ih1 _ _ _ _ _ _
   | exact ih2 _ _ _ _ _ _
   | exact codec_PutTrace.mono _ _
   | exact codec_Sum.mono _ _
   | exact tocsinlaw26_heavy.mono _ _ _ _
   | exact tocsinlaw26_ints.mono _ _ _
   | exact tocsinlaw26_own.mono _ _
   | exact tocsinref8_CodeSum.mono _ _
   | exact tocsinref8_PutTrace.mono _ _
   | exact LeO.none _
   | refine LeO.ite ?_ ?_
   | refine LeO.bind ?_ (fun _ => ?_)
  ·intro y0 y1 y2 y3 y4 y5
   unfold tocsinlaw26_CodecSays.l0
   repeat' first
   | (with_reducible exact ih0 _ _ _ _)
   | (with_reducible exact ih1 _ _ _ _ _ _)
   | (with_reducible exact ih2 _ _ _ _ _ _)
   | (with_reducible exact codec_PutTrace.mono _ _)
   | (with_reducible exact codec_Sum.mono _ _)
   | (with_reducible exact tocsinlaw26_heavy.mono _ _ _ _)
   | (with_reducible exact tocsinlaw26_ints.mono _ _ _)
   | (with_reducible exact tocsinlaw26_own.mono _ _)
   | (with_reducible exact tocsinref8_CodeSum.mono _ _)
   | (with_reducible exact tocsinref8_PutTrace.mono _ _)
   | (with_reducible exact LeO.refl _)
   | (with_reducible exact LeO.none _)
   | (with_reducible refine LeO.ite ?_ ?_)
   | (with_reducible refine LeO.bind ?_ (fun _ => ?_))
   | exact ih0 _ _ _ _
   | exact ih1 _ _ _ _ _ _
   | exact ih2 _ _ _ _ _ _
   | exact codec_PutTrace.mono _ _
   | exact codec_Sum.mono _ _
   | exact tocsinlaw26_heavy.mono _ _ _ _
   | exact tocsinlaw26_ints.mono _ _ _
   | exact tocsinlaw26_own.mono _ _
   | exact tocsinref8_CodeSum.mono _ _
   | exact tocsinref8_PutTrace.mono _ _
   | exact LeO.none _
   | refine LeO.ite ?_ ?_
   | refine LeO.bind ?_ (fun _ => ?_)
theorem tocsinlaw26_CodecSays.mono : ∀ a0 a1 a2 k, LeO (tocsinlaw26_CodecSays.f k a0 a1 a2) (tocsinlaw26_CodecSays.f (k + 1) a0 a1 a2) := by
 intro a0 a1 a2 k
 obtain ⟨ih0, ih1, ih2⟩ := tocsinlaw26_CodecSays.mono_l k
 unfold tocsinlaw26_CodecSays.f
 repeat' first
   | (with_reducible exact ih0 _ _ _ _)
   | (with_reducible exact ih1 _ _ _ _ _ _)
   | (with_reducible exact ih2 _ _ _ _ _ _)
   | (with_reducible exact codec_PutTrace.mono _ _)
   | (with_reducible exact codec_Sum.mono _ _)
   | (with_reducible exact tocsinlaw26_heavy.mono _ _ _ _)
   | (with_reducible exact tocsinlaw26_ints.mono _ _ _)
   | (with_reducible exact tocsinlaw26_own.mono _ _)
   | (with_reducible exact tocsinref8_CodeSum.mono _ _)
   | (with_reducible exact tocsinref8_PutTrace.mono _ _)
   | (with_reducible exact LeO.refl _)
   | (with_reducible exact LeO.none _)
   | (with_reducible refine LeO.ite ?_ ?_)
   | (with_reducible refine LeO.bind ?_ (fun _ => ?_))
   | exact ih0 _ _ _ _
   | exact ih1 _ _ _ _ _ _
   | exact ih2 _ _ _ _ _ _
   | exact codec_PutTrace.mono _ _
   | exact codec_Sum.mono _ _
   | exact tocsinlaw26_heavy.mono _ _ _ _
   | exact tocsinlaw26_ints.mono _ _ _
   | exact tocsinlaw26_own.mono _ _
   | exact tocsinref8_CodeSum.mono _ _
   | exact tocsinref8_PutTrace.mono _ _
   | exact LeO.none _
   | refine LeO.ite ?_ ?_
   | refine LeO.bind ?_ (fun _ => ?_)
def tocsinlaw26_CodecSays.T15 : Bool × List (List Nat × List Nat) := (true, [([], []), ([], []), ([0, 1], [0, 1]), ([2], [2]), ([], []), ([], []), ([4, 5], [4, 5]), ([6], [6]), ([3, 7], [3, 7])])
def tocsinlaw26_CodecSays.B15 : List Nat := [0, 0, 3, 7, 0, 0, 48, 112, 255]
theorem tocsinlaw26_CodecSays.tab15 : rtab .any (opsOf Tryd.f4 15) = tocsinlaw26_CodecSays.T15 := by kernel_rfl
theorem tocsinlaw26_CodecSays.bits15 : waitsOk tocsinlaw26_CodecSays.T15.2 tocsinlaw26_CodecSays.B15 = true := by kernel_rfl
def tocsinlaw26_CodecSays.T17 : Bool × List (List Nat × List Nat) := (true, [([], []), ([0], [0]), ([1], [1]), ([], []), ([3, 1], [3]), ([4, 4], [4]), ([5], [5]), ([2, 6], [2, 6]), ([7, 5], [7]), ([8], [8]), ([9, 8, 8], [8, 9]), ([10, 8], [8, 10]), ([8], [8]), ([12, 10, 8], [8, 12]), ([13, 8], [8, 13]), ([11, 14, 8], [8, 11, 14]), ([8, 15], [8, 15]), ([16, 13], [16]), ([17], [17]), ([18, 17, 17], [17, 18]), ([17], [17]), ([20, 19, 17], [17, 20]), ([19, 21, 17], [17, 19, 21]), ([17, 22], [17, 22]), ([23, 21, 0, 1, 2, 3, 4, 5, 6, 7, 8, 9, 10, 11, 12, 13, 14, 15, 16, 17, 18, 19, 20, 21, 22, 23], [23])])
def tocsinlaw26_CodecSays.B17 : List Nat := [0, 1, 3, 0, 11, 27, 59, 127, 255, 511, 1023, 2047, 511, 6143, 14335, 32767, 65535, 131071, 262143, 524287, 262143, 2097151, 4194303, 8388607, 16777215]
theorem tocsinlaw26_CodecSays.tab17 : rtab .any (opsOf Tryd.f4 17) = tocsinlaw26_CodecSays.T17 := by kernel_rfl
theorem tocsinlaw26_CodecSays.bits17 : waitsOk tocsinlaw26_CodecSays.T17.2 tocsinlaw26_CodecSays.B17 = true := by kernel_rfl
set_option maxHeartbeats 8000000 in
set_option maxRecDepth 100000 in
theorem tocsinlaw26_CodecSays.calls (k : Nat) (A0 : Option Addr) (c0 : Nat) (l0 : List (S48)) (A1 : Option Addr) (c1 : Nat) (l1 : List Int) (A2 : Option Addr) (c2 : Nat) (l2 : List Int) (r : Bool) (w : World) (hTb : Tab w) (hr0 : Kd.C k48 w A0 l0.length l0) (hc0 : l0.length ≤ c0) (hr1 : Kd.C (Kd.int .i64) w A1 l1.length l1) (hc1 : l1.length ≤ c1) (hr2 : Kd.C (Kd.int .u8) w A2 l2.length l2) (hc2 : l2.length ≤ c2) (h : tocsinlaw26_CodecSays.f k l0 l1 l2 = some r) (hr_ : r = true) :
  Calls Tryd.prog 4 #[.slice A0 l0.length c0, .slice A1 l1.length c1, .slice A2 l2.length c2] w fun e w' => e = .returned (.bool r) ∧ Below w.heap.size w w' := by
 have HTb := Aside0.mk hTb
 clear hTb
 have hu44 := Tryd.underlying44
 have HR0 := Aside0.mk hr0
 have HC0 := Aside0.mk hc0
 clear hr0 hc0
 have HR1 := Aside0.mk hr1
 have HC1 := Aside0.mk hc1
 clear hr1 hc1
 have HR2 := Aside0.mk hr2
 have HC2 := Aside0.mk hc2
 clear hr2 hc2
 have HB := Aside0.mk (Below.refl w.heap.size w)
 have H : ((tocsinlaw26_awake.f).bind fun t220 => (if t220 = true then ((tocsinlaw26_heavy.f k l0 20 10000).bind fun t221 => (if t221 = true then (tocsinlaw26_CodecSays.j0 k l0 l1 l2 true) else (if (l1.length : Int) > 300 then (tocsinlaw26_CodecSays.j0 k l0 l1 l2 true) else (tocsinlaw26_CodecSays.j0 k l0 l1 l2 (decide ((l2.length : Int) > 600)))))) else (some false))) = some r := h
 clear h
 replace H := Option.bind_eq_some_iff.mp H
 obtain ⟨t220, A40, H⟩ := H
 replace H : (if t220 = true then ((tocsinlaw26_heavy.f k l0 20 10000).bind fun t221 => (if t221 = true then (tocsinlaw26_CodecSays.j0 k l0 l1 l2 true) else (if (l1.length : Int) > 300 then (tocsinlaw26_CodecSays.j0 k l0 l1 l2 true) else (tocsinlaw26_CodecSays.j0 k l0 l1 l2 (decide ((l2.length : Int) > 600)))))) else (some false)) = some r := H
 have A4 := Aside0.mk A40
 clear A40
 by_cases c5 : t220 = true
 ·subst c5
  have H1 : ((tocsinlaw26_heavy.f k l0 20 10000).bind fun t221 => (if t221 = true then (tocsinlaw26_CodecSays.j0 k l0 l1 l2 true) else (if (l1.length : Int) > 300 then (tocsinlaw26_CodecSays.j0 k l0 l1 l2 true) else (tocsinlaw26_CodecSays.j0 k l0 l1 l2 (decide ((l2.length : Int) > 600)))))) = some r := by rw [if_pos rfl] at H; exact H
  clear H
  have H := H1
  clear H1
  have HC6 := Aside0.mk H
  clear H
  go_enter Tryd.func4, Tryd.ntmps4
  go_upto_region 3 with (first | ((with_reducible refine gate_callee (f := 6) rfl ?_); refine goesL_ (some 17) rfl rfl Tryd.func6 (by kernel_rfl) rfl #[] rfl (by (try simp only [List.map_toArray, List.map_cons, List.map_nil]); first | done | rfl | (simp only [List.length_drop, List.length_take]; rfl)) ?_; (with_reducible refine (tocsinlaw26_awake.calls  true _ A4.out).mono ?_); rintro e w7 ⟨rfl, hb⟩; refine ⟨_, rfl, ?_⟩; have n0_ := Aside0.mk (below_step (by repeat (first | (with_reducible first | exact HB.out | apply below_alloc | apply pw_below_drewN | apply below_drew1) | exact HB.out)) hb); clear HB; have HB := n0_; clear n0_; (try clear hb); (try clear hb2); (try clear hk); (try clear hi)))
  (try simp only [Act.put, List.setIfInBounds_toArray, List.set_cons_zero, List.set_cons_succ])
  go_cut [30] (fun v30 wc => ∃ (kq : Nat) (x30_5 : Bool), v30 = .bool x30_5 ∧ Aside0 (tocsinlaw26_CodecSays.j0 kq l0 l1 l2 x30_5 = some r) ∧ Aside0 (kq ≤ k) ∧ Aside0 (Below w.heap.size w wc))
  case first =>
   have H := HC6.out
   clear HC6
   replace H := Option.bind_eq_some_iff.mp H
   obtain ⟨t221, A80, H⟩ := H
   replace H : (if t221 = true then (tocsinlaw26_CodecSays.j0 k l0 l1 l2 true) else (if (l1.length : Int) > 300 then (tocsinlaw26_CodecSays.j0 k l0 l1 l2 true) else (tocsinlaw26_CodecSays.j0 k l0 l1 l2 (decide ((l2.length : Int) > 600))))) = some r := H
   have A8 := Aside0.mk A80
   clear A80
   by_cases c9 : t221 = true
   ·subst c9
    have H1 : (tocsinlaw26_CodecSays.j0 k l0 l1 l2 true) = some r := by rw [if_pos rfl] at H; exact H
    clear H
    have H := H1
    clear H1
    have H' := Aside0.mk H
    clear H
    go_wp2_with (first | ((with_reducible refine gate_callee (f := 12) rfl ?_); refine goesL_ (some 20) rfl rfl Tryd.func12 (by kernel_rfl) rfl #[.slice A0 l0.length c0, .int .i64 20, .int .i64 10000] rfl (by (try simp only [List.map_toArray, List.map_cons, List.map_nil]); first | done | rfl | (simp only [List.length_drop, List.length_take]; rfl)) ?_; (with_reducible refine (tocsinlaw26_heavy.calls k _ _ l0 20 10000 true _ ?side1 ?side2 A8.out).mono ?_); (case side1 => repeat (first | exact (Kd.C_below HR0.out HB.out) | (with_reducible refine Kd.C_alloc ?_ _) | (with_reducible refine Kd.C_drewN ?_ _) | (with_reducible refine Kd.C_drew ?_))); (case side2 => exact HC0.out); rintro e w' ⟨rfl, ⟨nd, rfl⟩⟩; refine ⟨_, rfl, ?_⟩))
    go_meet
    case rel => exact ⟨_, (true), (by first | rfl | (simp; done) | (simp [*]; done)), H', ⟨by first | omega | exact Nat.le_refl _⟩, ⟨by repeat (first | (with_reducible first | exact HB.out | apply below_alloc | apply pw_below_drewN | apply below_drew1) | exact HB.out)⟩⟩
   ·replace c9 := Bool.eq_false_iff.mpr c9
    subst c9
    have H1 : (if (l1.length : Int) > 300 then (tocsinlaw26_CodecSays.j0 k l0 l1 l2 true) else (tocsinlaw26_CodecSays.j0 k l0 l1 l2 (decide ((l2.length : Int) > 600)))) = some r := by rw [if_neg (show ¬ (false = true) by decide)] at H; exact H
    clear H
    have H := H1
    clear H1
    by_cases c10 : (l1.length : Int) > 300
    ·rw [if_pos c10] at H
     have c10b0 : decide (300 < (l1.length : Int)) = true := decide_eq_true c10
     have c10b1 : decide (300 < l1.length) = true := decide_eq_true (by omega)
     clear c10
     (first | rw [c10b0] | (simp only [i64_w, i32_w]; rw [c10b0]) | skip)
     have H' := Aside0.mk H
     clear H
     go_wp2_with (first | ((with_reducible refine gate_callee (f := 12) rfl ?_); refine goesL_ (some 20) rfl rfl Tryd.func12 (by kernel_rfl) rfl #[.slice A0 l0.length c0, .int .i64 20, .int .i64 10000] rfl (by (try simp only [List.map_toArray, List.map_cons, List.map_nil]); first | done | rfl | (simp only [List.length_drop, List.length_take]; rfl)) ?_; (with_reducible refine (tocsinlaw26_heavy.calls k _ _ l0 20 10000 false _ ?side1 ?side2 A8.out).mono ?_); (case side1 => repeat (first | exact (Kd.C_below HR0.out HB.out) | (with_reducible refine Kd.C_alloc ?_ _) | (with_reducible refine Kd.C_drewN ?_ _) | (with_reducible refine Kd.C_drew ?_))); (case side2 => exact HC0.out); rintro e w' ⟨rfl, ⟨nd, rfl⟩⟩; refine ⟨_, rfl, ?_⟩))
     go_meet
     case rel => exact ⟨_, (true), (by first | rfl | (simp; done) | (simp [*]; done)), H', ⟨by first | omega | exact Nat.le_refl _⟩, ⟨by repeat (first | (with_reducible first | exact HB.out | apply below_alloc | apply pw_below_drewN | apply below_drew1) | exact HB.out)⟩⟩
    ·rw [if_neg c10] at H
     have c10b0 : decide (300 < (l1.length : Int)) = false := decide_eq_false c10
     have c10b1 : decide (300 < l1.length) = false := decide_eq_false (by omega)
     clear c10
     (first | rw [c10b0] | (simp only [i64_w, i32_w]; rw [c10b0]) | skip)
     have H' := Aside0.mk H
     clear H
     go_wp2_with (first | ((with_reducible refine gate_callee (f := 12) rfl ?_); refine goesL_ (some 20) rfl rfl Tryd.func12 (by kernel_rfl) rfl #[.slice A0 l0.length c0, .int .i64 20, .int .i64 10000] rfl (by (try simp only [List.map_toArray, List.map_cons, List.map_nil]); first | done | rfl | (simp only [List.length_drop, List.length_take]; rfl)) ?_; (with_reducible refine (tocsinlaw26_heavy.calls k _ _ l0 20 10000 false _ ?side1 ?side2 A8.out).mono ?_); (case side1 => repeat (first | exact (Kd.C_below HR0.out HB.out) | (with_reducible refine Kd.C_alloc ?_ _) | (with_reducible refine Kd.C_drewN ?_ _) | (with_reducible refine Kd.C_drew ?_))); (case side2 => exact HC0.out); rintro e w' ⟨rfl, ⟨nd, rfl⟩⟩; refine ⟨_, rfl, ?_⟩))
     go_meet
     case rel => exact ⟨_, (decide ((l2.length : Int) > 600)), (by first | rfl | (simp; done) | (simp [*]; done)), H', ⟨by first | omega | exact Nat.le_refl _⟩, ⟨by repeat (first | (with_reducible first | exact HB.out | apply below_alloc | apply pw_below_drewN | apply below_drew1) | exact HB.out)⟩⟩
  case rest =>
   clear HC6
   try clear c1
   try clear c2
   try clear p2
   try clear c4
   try clear c5
   try clear c6
   try clear c9
   try clear c10
   try clear c10b0
   try clear c10b1
   obtain ⟨kq, x30_5, rfl, HA, HJ5, HB⟩ := hcut
   cases kq with
   | zero => exact absurd HA.out (by simp [tocsinlaw26_CodecSays.j0])
   | succ kj5 =>
    have H := HA.out
    clear HA
    simp only [tocsinlaw26_CodecSays.j0] at H
    by_cases c11 : x30_5 = true
    ·subst c11
     have H1 : (some true) = some r := by rw [if_pos rfl] at H; exact H
     clear H
     have H := H1
     clear H1
     obtain rfl := Option.some.inj H
     go_wp2
     go_ret
     exact ⟨by first | rfl | (simp [errW_none, errW_some] <;> rfl) | (simp [*, errW_none, errW_some] <;> rfl), by repeat (first | (with_reducible first | exact HB.out | apply below_alloc | apply pw_below_drewN | apply below_drew1) | exact HB.out)⟩
    ·replace c11 := Bool.eq_false_iff.mpr c11
     subst c11
     have H1 : ((codec_GetJobs.f l2).bind fun bt222 => ((tocsinref8_GetJobs.f l2).bind fun bt226 => ((codec_GetTrace.f l2).bind fun bt230 => ((tocsinref8_GetTrace.f l2).bind fun bt234 => (if ((bt222.2 == 0) != bt226.2) = true then (tocsinlaw26_CodecSays.j1 kj5 l0 l1 l2 bt222.1 bt226.1 true) else (if bt226.2 = true then (if ((bt230.2 == 0) != bt234.2) = true then (tocsinlaw26_CodecSays.j1 kj5 l0 l1 l2 bt222.1 bt226.1 true) else (if bt234.2 = true then ((tocsinlaw26_ints.f kj5 bt230.1 bt234.1).bind fun t238 => (if t238 = true then (tocsinlaw26_CodecSays.j1 kj5 l0 l1 l2 bt222.1 bt226.1 ((bt222.1.length : Int) != (bt226.1.length : Int))) else (tocsinlaw26_CodecSays.j1 kj5 l0 l1 l2 bt222.1 bt226.1 true))) else (if bt230.2 = 3 then ((tocsinlaw26_ints.f kj5 bt230.1 bt234.1).bind fun t239 => (if t239 = true then (tocsinlaw26_CodecSays.j1 kj5 l0 l1 l2 bt222.1 bt226.1 ((bt222.1.length : Int) != (bt226.1.length : Int))) else (tocsinlaw26_CodecSays.j1 kj5 l0 l1 l2 bt222.1 bt226.1 true))) else (tocsinlaw26_CodecSays.j1 kj5 l0 l1 l2 bt222.1 bt226.1 true)))) else (if bt222.2 = 3 then (if ((bt230.2 == 0) != bt234.2) = true then (tocsinlaw26_CodecSays.j1 kj5 l0 l1 l2 bt222.1 bt226.1 true) else (if bt234.2 = true then ((tocsinlaw26_ints.f kj5 bt230.1 bt234.1).bind fun t240 => (if t240 = true then (tocsinlaw26_CodecSays.j1 kj5 l0 l1 l2 bt222.1 bt226.1 ((bt222.1.length : Int) != (bt226.1.length : Int))) else (tocsinlaw26_CodecSays.j1 kj5 l0 l1 l2 bt222.1 bt226.1 true))) else (if bt230.2 = 3 then ((tocsinlaw26_ints.f kj5 bt230.1 bt234.1).bind fun t241 => (if t241 = true then (tocsinlaw26_CodecSays.j1 kj5 l0 l1 l2 bt222.1 bt226.1 ((bt222.1.length : Int) != (bt226.1.length : Int))) else (tocsinlaw26_CodecSays.j1 kj5 l0 l1 l2 bt222.1 bt226.1 true))) else (tocsinlaw26_CodecSays.j1 kj5 l0 l1 l2 bt222.1 bt226.1 true)))) else (tocsinlaw26_CodecSays.j1 kj5 l0 l1 l2 bt222.1 bt226.1 true)))))))) = some r := by rw [if_neg (show ¬ (false = true) by decide)] at H; exact H
     clear H
     have H := H1
     clear H1
     replace H := Option.bind_eq_some_iff.mp H
     obtain ⟨⟨t222, t223⟩, A120, H⟩ := H
     replace H : ((tocsinref8_GetJobs.f l2).bind fun bt226 => ((codec_GetTrace.f l2).bind fun bt230 => ((tocsinref8_GetTrace.f l2).bind fun bt234 => (if ((t223 == 0) != bt226.2) = true then (tocsinlaw26_CodecSays.j1 kj5 l0 l1 l2 t222 bt226.1 true) else (if bt226.2 = true then (if ((bt230.2 == 0) != bt234.2) = true then (tocsinlaw26_CodecSays.j1 kj5 l0 l1 l2 t222 bt226.1 true) else (if bt234.2 = true then ((tocsinlaw26_ints.f kj5 bt230.1 bt234.1).bind fun t238 => (if t238 = true then (tocsinlaw26_CodecSays.j1 kj5 l0 l1 l2 t222 bt226.1 ((t222.length : Int) != (bt226.1.length : Int))) else (tocsinlaw26_CodecSays.j1 kj5 l0 l1 l2 t222 bt226.1 true))) else (if bt230.2 = 3 then ((tocsinlaw26_ints.f kj5 bt230.1 bt234.1).bind fun t239 => (if t239 = true then (tocsinlaw26_CodecSays.j1 kj5 l0 l1 l2 t222 bt226.1 ((t222.length : Int) != (bt226.1.length : Int))) else (tocsinlaw26_CodecSays.j1 kj5 l0 l1 l2 t222 bt226.1 true))) else (tocsinlaw26_CodecSays.j1 kj5 l0 l1 l2 t222 bt226.1 true)))) else (if t223 = 3 then (if ((bt230.2 == 0) != bt234.2) = true then (tocsinlaw26_CodecSays.j1 kj5 l0 l1 l2 t222 bt226.1 true) else (if bt234.2 = true then ((tocsinlaw26_ints.f kj5 bt230.1 bt234.1).bind fun t240 => (if t240 = true then (tocsinlaw26_CodecSays.j1 kj5 l0 l1 l2 t222 bt226.1 ((t222.length : Int) != (bt226.1.length : Int))) else (tocsinlaw26_CodecSays.j1 kj5 l0 l1 l2 t222 bt226.1 true))) else (if bt230.2 = 3 then ((tocsinlaw26_ints.f kj5 bt230.1 bt234.1).bind fun t241 => (if t241 = true then (tocsinlaw26_CodecSays.j1 kj5 l0 l1 l2 t222 bt226.1 ((t222.length : Int) != (bt226.1.length : Int))) else (tocsinlaw26_CodecSays.j1 kj5 l0 l1 l2 t222 bt226.1 true))) else (tocsinlaw26_CodecSays.j1 kj5 l0 l1 l2 t222 bt226.1 true)))) else (tocsinlaw26_CodecSays.j1 kj5 l0 l1 l2 t222 bt226.1 true))))))) = some r := H
     have A12 := Aside0.mk A120
     clear A120
     replace H := Option.bind_eq_some_iff.mp H
     obtain ⟨⟨t226, t227⟩, A130, H⟩ := H
     replace H : ((codec_GetTrace.f l2).bind fun bt230 => ((tocsinref8_GetTrace.f l2).bind fun bt234 => (if ((t223 == 0) != t227) = true then (tocsinlaw26_CodecSays.j1 kj5 l0 l1 l2 t222 t226 true) else (if t227 = true then (if ((bt230.2 == 0) != bt234.2) = true then (tocsinlaw26_CodecSays.j1 kj5 l0 l1 l2 t222 t226 true) else (if bt234.2 = true then ((tocsinlaw26_ints.f kj5 bt230.1 bt234.1).bind fun t238 => (if t238 = true then (tocsinlaw26_CodecSays.j1 kj5 l0 l1 l2 t222 t226 ((t222.length : Int) != (t226.length : Int))) else (tocsinlaw26_CodecSays.j1 kj5 l0 l1 l2 t222 t226 true))) else (if bt230.2 = 3 then ((tocsinlaw26_ints.f kj5 bt230.1 bt234.1).bind fun t239 => (if t239 = true then (tocsinlaw26_CodecSays.j1 kj5 l0 l1 l2 t222 t226 ((t222.length : Int) != (t226.length : Int))) else (tocsinlaw26_CodecSays.j1 kj5 l0 l1 l2 t222 t226 true))) else (tocsinlaw26_CodecSays.j1 kj5 l0 l1 l2 t222 t226 true)))) else (if t223 = 3 then (if ((bt230.2 == 0) != bt234.2) = true then (tocsinlaw26_CodecSays.j1 kj5 l0 l1 l2 t222 t226 true) else (if bt234.2 = true then ((tocsinlaw26_ints.f kj5 bt230.1 bt234.1).bind fun t240 => (if t240 = true then (tocsinlaw26_CodecSays.j1 kj5 l0 l1 l2 t222 t226 ((t222.length : Int) != (t226.length : Int))) else (tocsinlaw26_CodecSays.j1 kj5 l0 l1 l2 t222 t226 true))) else (if bt230.2 = 3 then ((tocsinlaw26_ints.f kj5 bt230.1 bt234.1).bind fun t241 => (if t241 = true then (tocsinlaw26_CodecSays.j1 kj5 l0 l1 l2 t222 t226 ((t222.length : Int) != (t226.length : Int))) else (tocsinlaw26_CodecSays.j1 kj5 l0 l1 l2 t222 t226 true))) else (tocsinlaw26_CodecSays.j1 kj5 l0 l1 l2 t222 t226 true)))) else (tocsinlaw26_CodecSays.j1 kj5 l0 l1 l2 t222 t226 true)))))) = some r := H
     have A13 := Aside0.mk A130
     clear A130
     replace H := Option.bind_eq_some_iff.mp H
     obtain ⟨⟨t230, t231⟩, A140, H⟩ := H
     replace H : ((tocsinref8_GetTrace.f l2).bind fun bt234 => (if ((t223 == 0) != t227) = true then (tocsinlaw26_CodecSays.j1 kj5 l0 l1 l2 t222 t226 true) else (if t227 = true then (if ((t231 == 0) != bt234.2) = true then (tocsinlaw26_CodecSays.j1 kj5 l0 l1 l2 t222 t226 true) else (if bt234.2 = true then ((tocsinlaw26_ints.f kj5 t230 bt234.1).bind fun t238 => (if t238 = true then (tocsinlaw26_CodecSays.j1 kj5 l0 l1 l2 t222 t226 ((t222.length : Int) != (t226.length : Int))) else (tocsinlaw26_CodecSays.j1 kj5 l0 l1 l2 t222 t226 true))) else (if t231 = 3 then ((tocsinlaw26_ints.f kj5 t230 bt234.1).bind fun t239 => (if t239 = true then (tocsinlaw26_CodecSays.j1 kj5 l0 l1 l2 t222 t226 ((t222.length : Int) != (t226.length : Int))) else (tocsinlaw26_CodecSays.j1 kj5 l0 l1 l2 t222 t226 true))) else (tocsinlaw26_CodecSays.j1 kj5 l0 l1 l2 t222 t226 true)))) else (if t223 = 3 then (if ((t231 == 0) != bt234.2) = true then (tocsinlaw26_CodecSays.j1 kj5 l0 l1 l2 t222 t226 true) else (if bt234.2 = true then ((tocsinlaw26_ints.f kj5 t230 bt234.1).bind fun t240 => (if t240 = true then (tocsinlaw26_CodecSays.j1 kj5 l0 l1 l2 t222 t226 ((t222.length : Int) != (t226.length : Int))) else (tocsinlaw26_CodecSays.j1 kj5 l0 l1 l2 t222 t226 true))) else (if t231 = 3 then ((tocsinlaw26_ints.f kj5 t230 bt234.1).bind fun t241 => (if t241 = true then (tocsinlaw26_CodecSays.j1 kj5 l0 l1 l2 t222 t226 ((t222.length : Int) != (t226.length : Int))) else (tocsinlaw26_CodecSays.j1 kj5 l0 l1 l2 t222 t226 true))) else (tocsinlaw26_CodecSays.j1 kj5 l0 l1 l2 t222 t226 true)))) else (tocsinlaw26_CodecSays.j1 kj5 l0 l1 l2 t222 t226 true))))) = some r := H
     have A14 := Aside0.mk A140
     clear A140
     replace H := Option.bind_eq_some_iff.mp H
     obtain ⟨⟨t234, t235⟩, A150, H⟩ := H
     replace H : (if ((t223 == 0) != t227) = true then (tocsinlaw26_CodecSays.j1 kj5 l0 l1 l2 t222 t226 true) else (if t227 = true then (if ((t231 == 0) != t235) = true then (tocsinlaw26_CodecSays.j1 kj5 l0 l1 l2 t222 t226 true) else (if t235 = true then ((tocsinlaw26_ints.f kj5 t230 t234).bind fun t238 => (if t238 = true then (tocsinlaw26_CodecSays.j1 kj5 l0 l1 l2 t222 t226 ((t222.length : Int) != (t226.length : Int))) else (tocsinlaw26_CodecSays.j1 kj5 l0 l1 l2 t222 t226 true))) else (if t231 = 3 then ((tocsinlaw26_ints.f kj5 t230 t234).bind fun t239 => (if t239 = true then (tocsinlaw26_CodecSays.j1 kj5 l0 l1 l2 t222 t226 ((t222.length : Int) != (t226.length : Int))) else (tocsinlaw26_CodecSays.j1 kj5 l0 l1 l2 t222 t226 true))) else (tocsinlaw26_CodecSays.j1 kj5 l0 l1 l2 t222 t226 true)))) else (if t223 = 3 then (if ((t231 == 0) != t235) = true then (tocsinlaw26_CodecSays.j1 kj5 l0 l1 l2 t222 t226 true) else (if t235 = true then ((tocsinlaw26_ints.f kj5 t230 t234).bind fun t240 => (if t240 = true then (tocsinlaw26_CodecSays.j1 kj5 l0 l1 l2 t222 t226 ((t222.length : Int) != (t226.length : Int))) else (tocsinlaw26_CodecSays.j1 kj5 l0 l1 l2 t222 t226 true))) else (if t231 = 3 then ((tocsinlaw26_ints.f kj5 t230 t234).bind fun t241 => (if t241 = true then (tocsinlaw26_CodecSays.j1 kj5 l0 l1 l2 t222 t226 ((t222.length : Int) != (t226.length : Int))) else (tocsinlaw26_CodecSays.j1 kj5 l0 l1 l2 t222 t226 true))) else (tocsinlaw26_CodecSays.j1 kj5 l0 l1 l2 t222 t226 true)))) else (tocsinlaw26_CodecSays.j1 kj5 l0 l1 l2 t222 t226 true)))) = some r := H
     have A15 := Aside0.mk A150
     clear A150
     have HC16 := Aside0.mk H
     clear H
     go_upto_region 9 with (first | ((with_reducible refine gate_callee (f := 8) rfl ?_); refine goesL_ (some 33) rfl rfl Tryd.func8 (by kernel_rfl) rfl #[.slice A2 l2.length c2] rfl (by (try simp only [List.map_toArray, List.map_cons, List.map_nil]); first | done | rfl | (simp only [List.length_drop, List.length_take]; rfl)) ?_; (with_reducible refine (codec_GetJobs.calls _ _ l2 t222 t223 _ (tab_below HTb.out (by repeat (first | (with_reducible first | exact HB.out | apply below_alloc | apply pw_below_drewN | apply below_drew1) | exact HB.out))) ?side1 ?side2 A12.out).mono ?_); (case side1 => repeat (first | exact (Kd.C_below HR2.out HB.out) | (with_reducible refine Kd.C_alloc ?_ _) | (with_reducible refine Kd.C_drewN ?_ _) | (with_reducible refine Kd.C_drew ?_))); (case side2 => exact HC2.out); rintro e w17 ⟨v224, rfl, ho0, hb⟩; refine ⟨_, rfl, ?_⟩; have n0_ := Aside0.mk (Kd.R_lower ho0 (below_size (by repeat (first | (with_reducible first | exact HB.out | apply below_alloc | apply pw_below_drewN | apply below_drew1) | exact HB.out)))); have n1_ := Aside0.mk (below_step (by repeat (first | (with_reducible first | exact HB.out | apply below_alloc | apply pw_below_drewN | apply below_drew1) | exact HB.out)) hb); clear HB; have HO225 := n0_; have HB := n1_; clear n0_ n1_; (try clear hb); (try clear hb2); (try clear hk); (try clear hi); (try clear ho0)) | ((with_reducible refine gate_callee (f := 13) rfl ?_); refine goesL_ (some 38) rfl rfl Tryd.func13 (by kernel_rfl) rfl #[.slice A2 l2.length c2] rfl (by (try simp only [List.map_toArray, List.map_cons, List.map_nil]); first | done | rfl | (simp only [List.length_drop, List.length_take]; rfl)) ?_; (with_reducible refine (tocsinref8_GetJobs.calls _ _ l2 t226 t227 _ (tab_below HTb.out (by repeat (first | (with_reducible first | exact HB.out | apply below_alloc | apply pw_below_drewN | apply below_drew1) | exact HB.out))) ?side1 ?side2 A13.out).mono ?_); (case side1 => repeat (first | exact (Kd.C_below HR2.out HB.out) | (with_reducible refine Kd.C_alloc ?_ _) | (with_reducible refine Kd.C_drewN ?_ _) | (with_reducible refine Kd.C_drew ?_))); (case side2 => exact HC2.out); rintro e w18 ⟨v228, rfl, ho0, hb⟩; refine ⟨_, rfl, ?_⟩; have n0_ := Aside0.mk (Kd.R_below (by (with_reducible repeat (first | apply Kd.R_alloc | apply Kd.R_drewN | apply Kd.R_drew)); exact HO225.out) hb); have n1_ := Aside0.mk (Kd.R_lower ho0 (below_size (by repeat (first | (with_reducible first | exact HB.out | apply below_alloc | apply pw_below_drewN | apply below_drew1) | exact HB.out)))); have n2_ := Aside0.mk (below_step (by repeat (first | (with_reducible first | exact HB.out | apply below_alloc | apply pw_below_drewN | apply below_drew1) | exact HB.out)) hb); clear HO225; clear HB; have HO225 := n0_; have HO229 := n1_; have HB := n2_; clear n0_ n1_ n2_; (try clear hb); (try clear hb2); (try clear hk); (try clear hi); (try clear ho0)) | ((with_reducible refine gate_callee (f := 7) rfl ?_); refine goesL_ (some 43) rfl rfl Tryd.func7 (by kernel_rfl) rfl #[.slice A2 l2.length c2] rfl (by (try simp only [List.map_toArray, List.map_cons, List.map_nil]); first | done | rfl | (simp only [List.length_drop, List.length_take]; rfl)) ?_; (with_reducible refine (codec_GetTrace.calls _ _ l2 t230 t231 _ ?side1 ?side2 A14.out).mono ?_); (case side1 => repeat (first | exact (Kd.C_below HR2.out HB.out) | (with_reducible refine Kd.C_alloc ?_ _) | (with_reducible refine Kd.C_drewN ?_ _) | (with_reducible refine Kd.C_drew ?_))); (case side2 => exact HC2.out); rintro e w19 ⟨v232, rfl, ho0, hb⟩; refine ⟨_, rfl, ?_⟩; have n0_ := Aside0.mk (Kd.R_below (by (with_reducible repeat (first | apply Kd.R_alloc | apply Kd.R_drewN | apply Kd.R_drew)); exact HO225.out) hb); have n1_ := Aside0.mk (Kd.R_below (by (with_reducible repeat (first | apply Kd.R_alloc | apply Kd.R_drewN | apply Kd.R_drew)); exact HO229.out) hb); have n2_ := Aside0.mk (Kd.R_lower ho0 (below_size (by repeat (first | (with_reducible first | exact HB.out | apply below_alloc | apply pw_below_drewN | apply below_drew1) | exact HB.out)))); have n3_ := Aside0.mk (below_step (by repeat (first | (with_reducible first | exact HB.out | apply below_alloc | apply pw_below_drewN | apply below_drew1) | exact HB.out)) hb); clear HO225; clear HO229; clear HB; have HO225 := n0_; have HO229 := n1_; have HO233 := n2_; have HB := n3_; clear n0_ n1_ n2_ n3_; (try clear hb); (try clear hb2); (try clear hk); (try clear hi); (try clear ho0)) | ((with_reducible refine gate_callee (f := 14) rfl ?_); refine goesL_ (some 48) rfl rfl Tryd.func14 (by kernel_rfl) rfl #[.slice A2 l2.length c2] rfl (by (try simp only [List.map_toArray, List.map_cons, List.map_nil]); first | done | rfl | (simp only [List.length_drop, List.length_take]; rfl)) ?_; (with_reducible refine (tocsinref8_GetTrace.calls _ _ l2 t234 t235 _ ?side1 ?side2 A15.out).mono ?_); (case side1 => repeat (first | exact (Kd.C_below HR2.out HB.out) | (with_reducible refine Kd.C_alloc ?_ _) | (with_reducible refine Kd.C_drewN ?_ _) | (with_reducible refine Kd.C_drew ?_))); (case side2 => exact HC2.out); rintro e w20 ⟨v236, rfl, ho0, hb⟩; refine ⟨_, rfl, ?_⟩; have n0_ := Aside0.mk (Kd.R_below (by (with_reducible repeat (first | apply Kd.R_alloc | apply Kd.R_drewN | apply Kd.R_drew)); exact HO225.out) hb); have n1_ := Aside0.mk (Kd.R_below (by (with_reducible repeat (first | apply Kd.R_alloc | apply Kd.R_drewN | apply Kd.R_drew)); exact HO229.out) hb); have n2_ := Aside0.mk (Kd.R_elder' (by (with_reducible repeat (first | apply Kd.R_alloc | apply Kd.R_drewN | apply Kd.R_drew)); exact HO233.out) (Kd.R_base ho0) hb); have n3_ := Aside0.mk (Kd.R_lower (Kd.R_new' ho0 (Kd.R_lt (by (with_reducible repeat (first | apply Kd.R_alloc | apply Kd.R_drewN | apply Kd.R_drew)); exact HO233.out))) (below_size (by repeat (first | (with_reducible first | exact HB.out | apply below_alloc | apply pw_below_drewN | apply below_drew1) | exact HB.out)))); have n4_ := Aside0.mk (below_step (by repeat (first | (with_reducible first | exact HB.out | apply below_alloc | apply pw_below_drewN | apply below_drew1) | exact HB.out)) hb); clear HO225; clear HO229; clear HO233; clear HB; have HO225 := n0_; have HO229 := n1_; have HO233 := n2_; have HO237 := n3_; have HB := n4_; clear n0_ n1_ n2_ n3_ n4_; (try clear hb); (try clear hb2); (try clear hk); (try clear hi); (try clear ho0)))
     (try simp only [Act.put, List.setIfInBounds_toArray, List.set_cons_zero, List.set_cons_succ])
     go_cut [89] (fun v89 wc => ∃ (kq : Nat) (x89_15 : Bool), v89 = .bool x89_15 ∧ Aside0 (tocsinlaw26_CodecSays.j1 kq l0 l1 l2 t222 t226 x89_15 = some r) ∧ Aside0 (kq ≤ kj5) ∧ Aside0 (Kd.R k48 48 wc w.heap.size (fun _ => True) v224 t222) ∧ Aside0 (Kd.R k44 44 wc w.heap.size (fun _ => True) v228 t226) ∧ Aside0 (Below w.heap.size w wc))
     case first =>
      have H := HC16.out
      clear HC16
      by_cases c21 : ((t223 == 0) != t227) = true
      ·rw [if_pos c21] at H
       have c21b0 : ((t223 == 0) != t227) = true := c21
       (try (have c21b1 : decide ((t223 == 0) = t227) = false := by simpa using c21))
       (try (have c21b2 : ((t223 == 0) == t227) = false := by simpa using c21))
       (try (have c21b3 : ¬ ((t223 == 0) = t227) := by simpa using c21))
       clear c21
       (first | rw [c21b0] | (simp only [i64_w, i32_w]; rw [c21b0]) | skip)
       have H' := Aside0.mk H
       clear H
       go_wp2
       go_meet
       case rel => exact ⟨_, (true), (by first | rfl | (simp; done) | (simp [*]; done)), H', ⟨by have := HJ5.out; first | omega | exact Nat.le_refl _⟩, ⟨by (with_reducible repeat (first | apply Kd.R_alloc | apply Kd.R_drewN | apply Kd.R_drew)); exact HO225.out⟩, ⟨by (with_reducible repeat (first | apply Kd.R_alloc | apply Kd.R_drewN | apply Kd.R_drew)); exact HO229.out⟩, ⟨by repeat (first | (with_reducible first | exact HB.out | apply below_alloc | apply pw_below_drewN | apply below_drew1) | exact HB.out)⟩⟩
      ·rw [if_neg c21] at H
       have c21b0 : ((t223 == 0) != t227) = false := by simpa using c21
       (try (have c21b1 : decide ((t223 == 0) = t227) = true := by simpa using c21))
       (try (have c21b2 : ((t223 == 0) == t227) = true := by simpa using c21))
       clear c21
       (first | rw [c21b0] | (simp only [i64_w, i32_w]; rw [c21b0]) | skip)
       by_cases c22 : t227 = true
       ·subst c22
        have H1 : (if ((t231 == 0) != t235) = true then (tocsinlaw26_CodecSays.j1 kj5 l0 l1 l2 t222 t226 true) else (if t235 = true then ((tocsinlaw26_ints.f kj5 t230 t234).bind fun t238 => (if t238 = true then (tocsinlaw26_CodecSays.j1 kj5 l0 l1 l2 t222 t226 ((t222.length : Int) != (t226.length : Int))) else (tocsinlaw26_CodecSays.j1 kj5 l0 l1 l2 t222 t226 true))) else (if t231 = 3 then ((tocsinlaw26_ints.f kj5 t230 t234).bind fun t239 => (if t239 = true then (tocsinlaw26_CodecSays.j1 kj5 l0 l1 l2 t222 t226 ((t222.length : Int) != (t226.length : Int))) else (tocsinlaw26_CodecSays.j1 kj5 l0 l1 l2 t222 t226 true))) else (tocsinlaw26_CodecSays.j1 kj5 l0 l1 l2 t222 t226 true)))) = some r := by rw [if_pos rfl] at H; exact H
        clear H
        have H := H1
        clear H1
        by_cases c23 : ((t231 == 0) != t235) = true
        ·rw [if_pos c23] at H
         have c23b0 : ((t231 == 0) != t235) = true := c23
         (try (have c23b1 : decide ((t231 == 0) = t235) = false := by simpa using c23))
         (try (have c23b2 : ((t231 == 0) == t235) = false := by simpa using c23))
         (try (have c23b3 : ¬ ((t231 == 0) = t235) := by simpa using c23))
         clear c23
         have H' := Aside0.mk H
         clear H
         go_wp2
         go_meet
         case rel => exact ⟨_, (true), (by first | rfl | (simp; done) | (simp [*]; done)), H', ⟨by have := HJ5.out; first | omega | exact Nat.le_refl _⟩, ⟨by (with_reducible repeat (first | apply Kd.R_alloc | apply Kd.R_drewN | apply Kd.R_drew)); exact HO225.out⟩, ⟨by (with_reducible repeat (first | apply Kd.R_alloc | apply Kd.R_drewN | apply Kd.R_drew)); exact HO229.out⟩, ⟨by repeat (first | (with_reducible first | exact HB.out | apply below_alloc | apply pw_below_drewN | apply below_drew1) | exact HB.out)⟩⟩
        ·rw [if_neg c23] at H
         have c23b0 : ((t231 == 0) != t235) = false := by simpa using c23
         (try (have c23b1 : decide ((t231 == 0) = t235) = true := by simpa using c23))
         (try (have c23b2 : ((t231 == 0) == t235) = true := by simpa using c23))
         clear c23
         by_cases c24 : t235 = true
         ·subst c24
          have H1 : ((tocsinlaw26_ints.f kj5 t230 t234).bind fun t238 => (if t238 = true then (tocsinlaw26_CodecSays.j1 kj5 l0 l1 l2 t222 t226 ((t222.length : Int) != (t226.length : Int))) else (tocsinlaw26_CodecSays.j1 kj5 l0 l1 l2 t222 t226 true))) = some r := by rw [if_pos rfl] at H; exact H
          clear H
          have H := H1
          clear H1
          replace H := Option.bind_eq_some_iff.mp H
          obtain ⟨t238, A250, H⟩ := H
          replace H : (if t238 = true then (tocsinlaw26_CodecSays.j1 kj5 l0 l1 l2 t222 t226 ((t222.length : Int) != (t226.length : Int))) else (tocsinlaw26_CodecSays.j1 kj5 l0 l1 l2 t222 t226 true)) = some r := H
          have A25 := Aside0.mk A250
          clear A250
          by_cases c26 : t238 = true
          ·subst c26
           have H1 : (tocsinlaw26_CodecSays.j1 kj5 l0 l1 l2 t222 t226 ((t222.length : Int) != (t226.length : Int))) = some r := by rw [if_pos rfl] at H; exact H
           clear H
           have H := H1
           clear H1
           have H' := Aside0.mk H
           clear H
           obtain ⟨Ao27, co27, eo27⟩ := Kd.R_slice HO233.out
           subst eo27
           obtain ⟨Ao28, co28, eo28⟩ := Kd.R_slice HO237.out
           subst eo28
           go_wp2_with (first | (go_at_call 15; (with_reducible refine (tocsinlaw26_ints.calls kj5 _ _ t230 _ _ t234 true _ ?side1 ?side2 ?side3 ?side4 A25.out).mono ?_); (case side1 => repeat (first | exact (Kd.R_reads' HO233.out).2.2 | (with_reducible refine Kd.C_alloc ?_ _) | (with_reducible refine Kd.C_drewN ?_ _) | (with_reducible refine Kd.C_drew ?_))); (case side2 => exact (Kd.R_reads' HO233.out).2.1); (case side3 => repeat (first | exact (Kd.R_reads' HO237.out).2.2 | (with_reducible refine Kd.C_alloc ?_ _) | (with_reducible refine Kd.C_drewN ?_ _) | (with_reducible refine Kd.C_drew ?_))); (case side4 => exact (Kd.R_reads' HO237.out).2.1); rintro e w' ⟨rfl, ⟨nd, rfl⟩⟩; obtain ⟨Ao29, co29, eo29⟩ := Kd.R_slice HO225.out; subst eo29; obtain ⟨Ao30, co30, eo30⟩ := Kd.R_slice HO229.out; subst eo30))
           go_meet
           case rel => exact ⟨_, (((t222.length : Int) != (t226.length : Int))), (by first | rfl | (simp; done) | (simp [*]; done)), H', ⟨by have := HJ5.out; first | omega | exact Nat.le_refl _⟩, ⟨by (with_reducible repeat (first | apply Kd.R_alloc | apply Kd.R_drewN | apply Kd.R_drew)); exact HO225.out⟩, ⟨by (with_reducible repeat (first | apply Kd.R_alloc | apply Kd.R_drewN | apply Kd.R_drew)); exact HO229.out⟩, ⟨by repeat (first | (with_reducible first | exact HB.out | apply below_alloc | apply pw_below_drewN | apply below_drew1) | exact HB.out)⟩⟩
          ·replace c26 := Bool.eq_false_iff.mpr c26
           subst c26
           have H1 : (tocsinlaw26_CodecSays.j1 kj5 l0 l1 l2 t222 t226 true) = some r := by rw [if_neg (show ¬ (false = true) by decide)] at H; exact H
           clear H
           have H := H1
           clear H1
           have H' := Aside0.mk H
           clear H
           obtain ⟨Ao31, co31, eo31⟩ := Kd.R_slice HO233.out
           subst eo31
           obtain ⟨Ao32, co32, eo32⟩ := Kd.R_slice HO237.out
           subst eo32
           go_wp2_with (first | (go_at_call 15; (with_reducible refine (tocsinlaw26_ints.calls kj5 _ _ t230 _ _ t234 false _ ?side1 ?side2 ?side3 ?side4 A25.out).mono ?_); (case side1 => repeat (first | exact (Kd.R_reads' HO233.out).2.2 | (with_reducible refine Kd.C_alloc ?_ _) | (with_reducible refine Kd.C_drewN ?_ _) | (with_reducible refine Kd.C_drew ?_))); (case side2 => exact (Kd.R_reads' HO233.out).2.1); (case side3 => repeat (first | exact (Kd.R_reads' HO237.out).2.2 | (with_reducible refine Kd.C_alloc ?_ _) | (with_reducible refine Kd.C_drewN ?_ _) | (with_reducible refine Kd.C_drew ?_))); (case side4 => exact (Kd.R_reads' HO237.out).2.1); rintro e w' ⟨rfl, ⟨nd, rfl⟩⟩))
           go_meet
           case rel => exact ⟨_, (true), (by first | rfl | (simp; done) | (simp [*]; done)), H', ⟨by have := HJ5.out; first | omega | exact Nat.le_refl _⟩, ⟨by (with_reducible repeat (first | apply Kd.R_alloc | apply Kd.R_drewN | apply Kd.R_drew)); exact HO225.out⟩, ⟨by (with_reducible repeat (first | apply Kd.R_alloc | apply Kd.R_drewN | apply Kd.R_drew)); exact HO229.out⟩, ⟨by repeat (first | (with_reducible first | exact HB.out | apply below_alloc | apply pw_below_drewN | apply below_drew1) | exact HB.out)⟩⟩
         ·replace c24 := Bool.eq_false_iff.mpr c24
          subst c24
          have H1 : (if t231 = 3 then ((tocsinlaw26_ints.f kj5 t230 t234).bind fun t239 => (if t239 = true then (tocsinlaw26_CodecSays.j1 kj5 l0 l1 l2 t222 t226 ((t222.length : Int) != (t226.length : Int))) else (tocsinlaw26_CodecSays.j1 kj5 l0 l1 l2 t222 t226 true))) else (tocsinlaw26_CodecSays.j1 kj5 l0 l1 l2 t222 t226 true)) = some r := by rw [if_neg (show ¬ (false = true) by decide)] at H; exact H
          clear H
          have H := H1
          clear H1
          by_cases c33 : t231 = 3
          ·rw [if_pos c33] at H
           have c33b0 : (t231 == 3) = true := beq_iff_eq.mpr c33
           have c33b1 : (t231 != 3) = false := bne_eq_false_iff_eq.mpr c33
           clear c33
           replace H := Option.bind_eq_some_iff.mp H
           obtain ⟨t239, A340, H⟩ := H
           replace H : (if t239 = true then (tocsinlaw26_CodecSays.j1 kj5 l0 l1 l2 t222 t226 ((t222.length : Int) != (t226.length : Int))) else (tocsinlaw26_CodecSays.j1 kj5 l0 l1 l2 t222 t226 true)) = some r := H
           have A34 := Aside0.mk A340
           clear A340
           by_cases c35 : t239 = true
           ·subst c35
            have H1 : (tocsinlaw26_CodecSays.j1 kj5 l0 l1 l2 t222 t226 ((t222.length : Int) != (t226.length : Int))) = some r := by rw [if_pos rfl] at H; exact H
            clear H
            have H := H1
            clear H1
            have H' := Aside0.mk H
            clear H
            obtain ⟨Ao36, co36, eo36⟩ := Kd.R_slice HO233.out
            subst eo36
            obtain ⟨Ao37, co37, eo37⟩ := Kd.R_slice HO237.out
            subst eo37
            go_wp2_with (first | (go_at_call 15; (with_reducible refine (tocsinlaw26_ints.calls kj5 _ _ t230 _ _ t234 true _ ?side1 ?side2 ?side3 ?side4 A34.out).mono ?_); (case side1 => repeat (first | exact (Kd.R_reads' HO233.out).2.2 | (with_reducible refine Kd.C_alloc ?_ _) | (with_reducible refine Kd.C_drewN ?_ _) | (with_reducible refine Kd.C_drew ?_))); (case side2 => exact (Kd.R_reads' HO233.out).2.1); (case side3 => repeat (first | exact (Kd.R_reads' HO237.out).2.2 | (with_reducible refine Kd.C_alloc ?_ _) | (with_reducible refine Kd.C_drewN ?_ _) | (with_reducible refine Kd.C_drew ?_))); (case side4 => exact (Kd.R_reads' HO237.out).2.1); rintro e w' ⟨rfl, ⟨nd, rfl⟩⟩; obtain ⟨Ao38, co38, eo38⟩ := Kd.R_slice HO225.out; subst eo38; obtain ⟨Ao39, co39, eo39⟩ := Kd.R_slice HO229.out; subst eo39))
            go_meet
            case rel => exact ⟨_, (((t222.length : Int) != (t226.length : Int))), (by first | rfl | (simp; done) | (simp [*]; done)), H', ⟨by have := HJ5.out; first | omega | exact Nat.le_refl _⟩, ⟨by (with_reducible repeat (first | apply Kd.R_alloc | apply Kd.R_drewN | apply Kd.R_drew)); exact HO225.out⟩, ⟨by (with_reducible repeat (first | apply Kd.R_alloc | apply Kd.R_drewN | apply Kd.R_drew)); exact HO229.out⟩, ⟨by repeat (first | (with_reducible first | exact HB.out | apply below_alloc | apply pw_below_drewN | apply below_drew1) | exact HB.out)⟩⟩
           ·replace c35 := Bool.eq_false_iff.mpr c35
            subst c35
            have H1 : (tocsinlaw26_CodecSays.j1 kj5 l0 l1 l2 t222 t226 true) = some r := by rw [if_neg (show ¬ (false = true) by decide)] at H; exact H
            clear H
            have H := H1
            clear H1
            have H' := Aside0.mk H
            clear H
            obtain ⟨Ao40, co40, eo40⟩ := Kd.R_slice HO233.out
            subst eo40
            obtain ⟨Ao41, co41, eo41⟩ := Kd.R_slice HO237.out
            subst eo41
            go_wp2_with (first | (go_at_call 15; (with_reducible refine (tocsinlaw26_ints.calls kj5 _ _ t230 _ _ t234 false _ ?side1 ?side2 ?side3 ?side4 A34.out).mono ?_); (case side1 => repeat (first | exact (Kd.R_reads' HO233.out).2.2 | (with_reducible refine Kd.C_alloc ?_ _) | (with_reducible refine Kd.C_drewN ?_ _) | (with_reducible refine Kd.C_drew ?_))); (case side2 => exact (Kd.R_reads' HO233.out).2.1); (case side3 => repeat (first | exact (Kd.R_reads' HO237.out).2.2 | (with_reducible refine Kd.C_alloc ?_ _) | (with_reducible refine Kd.C_drewN ?_ _) | (with_reducible refine Kd.C_drew ?_))); (case side4 => exact (Kd.R_reads' HO237.out).2.1); rintro e w' ⟨rfl, ⟨nd, rfl⟩⟩))
            go_meet
            case rel => exact ⟨_, (true), (by first | rfl | (simp; done) | (simp [*]; done)), H', ⟨by have := HJ5.out; first | omega | exact Nat.le_refl _⟩, ⟨by (with_reducible repeat (first | apply Kd.R_alloc | apply Kd.R_drewN | apply Kd.R_drew)); exact HO225.out⟩, ⟨by (with_reducible repeat (first | apply Kd.R_alloc | apply Kd.R_drewN | apply Kd.R_drew)); exact HO229.out⟩, ⟨by repeat (first | (with_reducible first | exact HB.out | apply below_alloc | apply pw_below_drewN | apply below_drew1) | exact HB.out)⟩⟩
          ·rw [if_neg c33] at H
           have c33b0 : (t231 == 3) = false := beq_eq_false_iff_ne.mpr c33
           have c33b1 : (t231 != 3) = true := bne_iff_ne.mpr c33
           have H' := Aside0.mk H
           clear H
           go_wp2
           go_meet
           case rel => exact ⟨_, (true), (by first | rfl | (simp; done) | (simp [*]; done)), H', ⟨by have := HJ5.out; first | omega | exact Nat.le_refl _⟩, ⟨by (with_reducible repeat (first | apply Kd.R_alloc | apply Kd.R_drewN | apply Kd.R_drew)); exact HO225.out⟩, ⟨by (with_reducible repeat (first | apply Kd.R_alloc | apply Kd.R_drewN | apply Kd.R_drew)); exact HO229.out⟩, ⟨by repeat (first | (with_reducible first | exact HB.out | apply below_alloc | apply pw_below_drewN | apply below_drew1) | exact HB.out)⟩⟩
       ·replace c22 := Bool.eq_false_iff.mpr c22
        subst c22
        have H1 : (if t223 = 3 then (if ((t231 == 0) != t235) = true then (tocsinlaw26_CodecSays.j1 kj5 l0 l1 l2 t222 t226 true) else (if t235 = true then ((tocsinlaw26_ints.f kj5 t230 t234).bind fun t240 => (if t240 = true then (tocsinlaw26_CodecSays.j1 kj5 l0 l1 l2 t222 t226 ((t222.length : Int) != (t226.length : Int))) else (tocsinlaw26_CodecSays.j1 kj5 l0 l1 l2 t222 t226 true))) else (if t231 = 3 then ((tocsinlaw26_ints.f kj5 t230 t234).bind fun t241 => (if t241 = true then (tocsinlaw26_CodecSays.j1 kj5 l0 l1 l2 t222 t226 ((t222.length : Int) != (t226.length : Int))) else (tocsinlaw26_CodecSays.j1 kj5 l0 l1 l2 t222 t226 true))) else (tocsinlaw26_CodecSays.j1 kj5 l0 l1 l2 t222 t226 true)))) else (tocsinlaw26_CodecSays.j1 kj5 l0 l1 l2 t222 t226 true)) = some r := by rw [if_neg (show ¬ (false = true) by decide)] at H; exact H
        clear H
        have H := H1
        clear H1
        by_cases c42 : t223 = 3
        ·rw [if_pos c42] at H
         have c42b0 : (t223 == 3) = true := beq_iff_eq.mpr c42
         have c42b1 : (t223 != 3) = false := bne_eq_false_iff_eq.mpr c42
         clear c42
         by_cases c43 : ((t231 == 0) != t235) = true
         ·rw [if_pos c43] at H
          have c43b0 : ((t231 == 0) != t235) = true := c43
          (try (have c43b1 : decide ((t231 == 0) = t235) = false := by simpa using c43))
          (try (have c43b2 : ((t231 == 0) == t235) = false := by simpa using c43))
          (try (have c43b3 : ¬ ((t231 == 0) = t235) := by simpa using c43))
          clear c43
          have H' := Aside0.mk H
          clear H
          go_wp2
          go_meet
          case rel => exact ⟨_, (true), (by first | rfl | (simp; done) | (simp [*]; done)), H', ⟨by have := HJ5.out; first | omega | exact Nat.le_refl _⟩, ⟨by (with_reducible repeat (first | apply Kd.R_alloc | apply Kd.R_drewN | apply Kd.R_drew)); exact HO225.out⟩, ⟨by (with_reducible repeat (first | apply Kd.R_alloc | apply Kd.R_drewN | apply Kd.R_drew)); exact HO229.out⟩, ⟨by repeat (first | (with_reducible first | exact HB.out | apply below_alloc | apply pw_below_drewN | apply below_drew1) | exact HB.out)⟩⟩
         ·rw [if_neg c43] at H
          have c43b0 : ((t231 == 0) != t235) = false := by simpa using c43
          (try (have c43b1 : decide ((t231 == 0) = t235) = true := by simpa using c43))
          (try (have c43b2 : ((t231 == 0) == t235) = true := by simpa using c43))
          clear c43
          by_cases c44 : t235 = true
          ·subst c44
           have H1 : ((tocsinlaw26_ints.f kj5 t230 t234).bind fun t240 => (if t240 = true then (tocsinlaw26_CodecSays.j1 kj5 l0 l1 l2 t222 t226 ((t222.length : Int) != (t226.length : Int))) else (tocsinlaw26_CodecSays.j1 kj5 l0 l1 l2 t222 t226 true))) = some r := by rw [if_pos rfl] at H; exact H
           clear H
           have H := H1
           clear H1
           replace H := Option.bind_eq_some_iff.mp H
           obtain ⟨t240, A450, H⟩ := H
           replace H : (if t240 = true then (tocsinlaw26_CodecSays.j1 kj5 l0 l1 l2 t222 t226 ((t222.length : Int) != (t226.length : Int))) else (tocsinlaw26_CodecSays.j1 kj5 l0 l1 l2 t222 t226 true)) = some r := H
           have A45 := Aside0.mk A450
           clear A450
           by_cases c46 : t240 = true
           ·subst c46
            have H1 : (tocsinlaw26_CodecSays.j1 kj5 l0 l1 l2 t222 t226 ((t222.length : Int) != (t226.length : Int))) = some r := by rw [if_pos rfl] at H; exact H
            clear H
            have H := H1
            clear H1
            have H' := Aside0.mk H
            clear H
            obtain ⟨Ao47, co47, eo47⟩ := Kd.R_slice HO233.out
            subst eo47
            obtain ⟨Ao48, co48, eo48⟩ := Kd.R_slice HO237.out
            subst eo48
            go_wp2_with (first | (go_at_call 15; (with_reducible refine (tocsinlaw26_ints.calls kj5 _ _ t230 _ _ t234 true _ ?side1 ?side2 ?side3 ?side4 A45.out).mono ?_); (case side1 => repeat (first | exact (Kd.R_reads' HO233.out).2.2 | (with_reducible refine Kd.C_alloc ?_ _) | (with_reducible refine Kd.C_drewN ?_ _) | (with_reducible refine Kd.C_drew ?_))); (case side2 => exact (Kd.R_reads' HO233.out).2.1); (case side3 => repeat (first | exact (Kd.R_reads' HO237.out).2.2 | (with_reducible refine Kd.C_alloc ?_ _) | (with_reducible refine Kd.C_drewN ?_ _) | (with_reducible refine Kd.C_drew ?_))); (case side4 => exact (Kd.R_reads' HO237.out).2.1); rintro e w' ⟨rfl, ⟨nd, rfl⟩⟩; obtain ⟨Ao49, co49, eo49⟩ := Kd.R_slice HO225.out; subst eo49; obtain ⟨Ao50, co50, eo50⟩ := Kd.R_slice HO229.out; subst eo50))
            go_meet
            case rel => exact ⟨_, (((t222.length : Int) != (t226.length : Int))), (by first | rfl | (simp; done) | (simp [*]; done)), H', ⟨by have := HJ5.out; first | omega | exact Nat.le_refl _⟩, ⟨by (with_reducible repeat (first | apply Kd.R_alloc | apply Kd.R_drewN | apply Kd.R_drew)); exact HO225.out⟩, ⟨by (with_reducible repeat (first | apply Kd.R_alloc | apply Kd.R_drewN | apply Kd.R_drew)); exact HO229.out⟩, ⟨by repeat (first | (with_reducible first | exact HB.out | apply below_alloc | apply pw_below_drewN | apply below_drew1) | exact HB.out)⟩⟩
           ·replace c46 := Bool.eq_false_iff.mpr c46
            subst c46
            have H1 : (tocsinlaw26_CodecSays.j1 kj5 l0 l1 l2 t222 t226 true) = some r := by rw [if_neg (show ¬ (false = true) by decide)] at H; exact H
            clear H
            have H := H1
            clear H1
            have H' := Aside0.mk H
            clear H
            obtain ⟨Ao51, co51, eo51⟩ := Kd.R_slice HO233.out
            subst eo51
            obtain ⟨Ao52, co52, eo52⟩ := Kd.R_slice HO237.out
            subst eo52
            go_wp2_with (first | (go_at_call 15; (with_reducible refine (tocsinlaw26_ints.calls kj5 _ _ t230 _ _ t234 false _ ?side1 ?side2 ?side3 ?side4 A45.out).mono ?_); (case side1 => repeat (first | exact (Kd.R_reads' HO233.out).2.2 | (with_reducible refine Kd.C_alloc ?_ _) | (with_reducible refine Kd.C_drewN ?_ _) | (with_reducible refine Kd.C_drew ?_))); (case side2 => exact (Kd.R_reads' HO233.out).2.1); (case side3 => repeat (first | exact (Kd.R_reads' HO237.out).2.2 | (with_reducible refine Kd.C_alloc ?_ _) | (with_reducible refine Kd.C_drewN ?_ _) | (with_reducible refine Kd.C_drew ?_))); (case side4 => exact (Kd.R_reads' HO237.out).2.1); rintro e w' ⟨rfl, ⟨nd, rfl⟩⟩))
            go_meet
            case rel => exact ⟨_, (true), (by first | rfl | (simp; done) | (simp [*]; done)), H', ⟨by have := HJ5.out; first | omega | exact Nat.le_refl _⟩, ⟨by (with_reducible repeat (first | apply Kd.R_alloc | apply Kd.R_drewN | apply Kd.R_drew)); exact HO225.out⟩, ⟨by (with_reducible repeat (first | apply Kd.R_alloc | apply Kd.R_drewN | apply Kd.R_drew)); exact HO229.out⟩, ⟨by repeat (first | (with_reducible first | exact HB.out | apply below_alloc | apply pw_below_drewN | apply below_drew1) | exact HB.out)⟩⟩
          ·replace c44 := Bool.eq_false_iff.mpr c44
           subst c44
           have H1 : (if t231 = 3 then ((tocsinlaw26_ints.f kj5 t230 t234).bind fun t241 => (if t241 = true then (tocsinlaw26_CodecSays.j1 kj5 l0 l1 l2 t222 t226 ((t222.length : Int) != (t226.length : Int))) else (tocsinlaw26_CodecSays.j1 kj5 l0 l1 l2 t222 t226 true))) else (tocsinlaw26_CodecSays.j1 kj5 l0 l1 l2 t222 t226 true)) = some r := by rw [if_neg (show ¬ (false = true) by decide)] at H; exact H
           clear H
           have H := H1
           clear H1
           by_cases c53 : t231 = 3
           ·rw [if_pos c53] at H
            have c53b0 : (t231 == 3) = true := beq_iff_eq.mpr c53
            have c53b1 : (t231 != 3) = false := bne_eq_false_iff_eq.mpr c53
            clear c53
            replace H := Option.bind_eq_some_iff.mp H
            obtain ⟨t241, A540, H⟩ := H
            replace H : (if t241 = true then (tocsinlaw26_CodecSays.j1 kj5 l0 l1 l2 t222 t226 ((t222.length : Int) != (t226.length : Int))) else (tocsinlaw26_CodecSays.j1 kj5 l0 l1 l2 t222 t226 true)) = some r := H
            have A54 := Aside0.mk A540
            clear A540
            by_cases c55 : t241 = true
            ·subst c55
             have H1 : (tocsinlaw26_CodecSays.j1 kj5 l0 l1 l2 t222 t226 ((t222.length : Int) != (t226.length : Int))) = some r := by rw [if_pos rfl] at H; exact H
             clear H
             have H := H1
             clear H1
             have H' := Aside0.mk H
             clear H
             obtain ⟨Ao56, co56, eo56⟩ := Kd.R_slice HO233.out
             subst eo56
             obtain ⟨Ao57, co57, eo57⟩ := Kd.R_slice HO237.out
             subst eo57
             go_wp2_with (first | (go_at_call 15; (with_reducible refine (tocsinlaw26_ints.calls kj5 _ _ t230 _ _ t234 true _ ?side1 ?side2 ?side3 ?side4 A54.out).mono ?_); (case side1 => repeat (first | exact (Kd.R_reads' HO233.out).2.2 | (with_reducible refine Kd.C_alloc ?_ _) | (with_reducible refine Kd.C_drewN ?_ _) | (with_reducible refine Kd.C_drew ?_))); (case side2 => exact (Kd.R_reads' HO233.out).2.1); (case side3 => repeat (first | exact (Kd.R_reads' HO237.out).2.2 | (with_reducible refine Kd.C_alloc ?_ _) | (with_reducible refine Kd.C_drewN ?_ _) | (with_reducible refine Kd.C_drew ?_))); (case side4 => exact (Kd.R_reads' HO237.out).2.1); rintro e w' ⟨rfl, ⟨nd, rfl⟩⟩; obtain ⟨Ao58, co58, eo58⟩ := Kd.R_slice HO225.out; subst eo58; obtain ⟨Ao59, co59, eo59⟩ := Kd.R_slice HO229.out; subst eo59))
             go_meet
             case rel => exact ⟨_, (((t222.length : Int) != (t226.length : Int))), (by first | rfl | (simp; done) | (simp [*]; done)), H', ⟨by have := HJ5.out; first | omega | exact Nat.le_refl _⟩, ⟨by (with_reducible repeat (first | apply Kd.R_alloc | apply Kd.R_drewN | apply Kd.R_drew)); exact HO225.out⟩, ⟨by (with_reducible repeat (first | apply Kd.R_alloc | apply Kd.R_drewN | apply Kd.R_drew)); exact HO229.out⟩, ⟨by repeat (first | (with_reducible first | exact HB.out | apply below_alloc | apply pw_below_drewN | apply below_drew1) | exact HB.out)⟩⟩
            ·replace c55 := Bool.eq_false_iff.mpr c55
             subst c55
             have H1 : (tocsinlaw26_CodecSays.j1 kj5 l0 l1 l2 t222 t226 true) = some r := by rw [if_neg (show ¬ (false = true) by decide)] at H; exact H
             clear H
             have H := H1
             clear H1
             have H' := Aside0.mk H
             clear H
             obtain ⟨Ao60, co60, eo60⟩ := Kd.R_slice HO233.out
             subst eo60
             obtain ⟨Ao61, co61, eo61⟩ := Kd.R_slice HO237.out
             subst eo61
             go_wp2_with (first | (go_at_call 15; (with_reducible refine (tocsinlaw26_ints.calls kj5 _ _ t230 _ _ t234 false _ ?side1 ?side2 ?side3 ?side4 A54.out).mono ?_); (case side1 => repeat (first | exact (Kd.R_reads' HO233.out).2.2 | (with_reducible refine Kd.C_alloc ?_ _) | (with_reducible refine Kd.C_drewN ?_ _) | (with_reducible refine Kd.C_drew ?_))); (case side2 => exact (Kd.R_reads' HO233.out).2.1); (case side3 => repeat (first | exact (Kd.R_reads' HO237.out).2.2 | (with_reducible refine Kd.C_alloc ?_ _) | (with_reducible refine Kd.C_drewN ?_ _) | (with_reducible refine Kd.C_drew ?_))); (case side4 => exact (Kd.R_reads' HO237.out).2.1); rintro e w' ⟨rfl, ⟨nd, rfl⟩⟩))
             go_meet
             case rel => exact ⟨_, (true), (by first | rfl | (simp; done) | (simp [*]; done)), H', ⟨by have := HJ5.out; first | omega | exact Nat.le_refl _⟩, ⟨by (with_reducible repeat (first | apply Kd.R_alloc | apply Kd.R_drewN | apply Kd.R_drew)); exact HO225.out⟩, ⟨by (with_reducible repeat (first | apply Kd.R_alloc | apply Kd.R_drewN | apply Kd.R_drew)); exact HO229.out⟩, ⟨by repeat (first | (with_reducible first | exact HB.out | apply below_alloc | apply pw_below_drewN | apply below_drew1) | exact HB.out)⟩⟩
           ·rw [if_neg c53] at H
            have c53b0 : (t231 == 3) = false := beq_eq_false_iff_ne.mpr c53
            have c53b1 : (t231 != 3) = true := bne_iff_ne.mpr c53
            have H' := Aside0.mk H
            clear H
            go_wp2
            go_meet
            case rel => exact ⟨_, (true), (by first | rfl | (simp; done) | (simp [*]; done)), H', ⟨by have := HJ5.out; first | omega | exact Nat.le_refl _⟩, ⟨by (with_reducible repeat (first | apply Kd.R_alloc | apply Kd.R_drewN | apply Kd.R_drew)); exact HO225.out⟩, ⟨by (with_reducible repeat (first | apply Kd.R_alloc | apply Kd.R_drewN | apply Kd.R_drew)); exact HO229.out⟩, ⟨by repeat (first | (with_reducible first | exact HB.out | apply below_alloc | apply pw_below_drewN | apply below_drew1) | exact HB.out)⟩⟩
        ·rw [if_neg c42] at H
         have c42b0 : (t223 == 3) = false := beq_eq_false_iff_ne.mpr c42
         have c42b1 : (t223 != 3) = true := bne_iff_ne.mpr c42
         have H' := Aside0.mk H
         clear H
         go_wp2
         go_meet
         case rel => exact ⟨_, (true), (by first | rfl | (simp; done) | (simp [*]; done)), H', ⟨by have := HJ5.out; first | omega | exact Nat.le_refl _⟩, ⟨by (with_reducible repeat (first | apply Kd.R_alloc | apply Kd.R_drewN | apply Kd.R_drew)); exact HO225.out⟩, ⟨by (with_reducible repeat (first | apply Kd.R_alloc | apply Kd.R_drewN | apply Kd.R_drew)); exact HO229.out⟩, ⟨by repeat (first | (with_reducible first | exact HB.out | apply below_alloc | apply pw_below_drewN | apply below_drew1) | exact HB.out)⟩⟩
     case rest =>
      clear HC16
      try clear c1
      try clear c2
      try clear p2
      try clear c3
      try clear c4
      try clear c5
      try clear c6
      try clear c7
      try clear c8
      try clear c9
      try clear c10
      try clear c10b0
      try clear c10b1
      try clear c11
      try clear c12
      try clear c13
      try clear c14
      try clear c21
      try clear c21b0
      try clear c21b1
      try clear c21b2
      try clear c22
      try clear c23
      try clear c23b0
      try clear c23b1
      try clear c23b2
      try clear c24
      try clear c26
      try clear c33
      try clear c33b0
      try clear c33b1
      try clear c35
      try clear c42
      try clear c42b0
      try clear c42b1
      try clear c43
      try clear c43b0
      try clear c43b1
      try clear c43b2
      try clear c44
      try clear c46
      try clear c53
      try clear c53b0
      try clear c53b1
      try clear c55
      try clear p2
      obtain ⟨kq, x89_15, rfl, HA, HJ15, HO_7, HO_9, HB⟩ := hcut
      cases kq with
      | zero => exact absurd HA.out (by simp [tocsinlaw26_CodecSays.j1])
      | succ kj15 =>
       have H := HA.out
       clear HA
       simp only [tocsinlaw26_CodecSays.j1] at H
       by_cases c62 : x89_15 = true
       ·subst c62
        have H1 : (some false) = some r := by rw [if_pos rfl] at H; exact H
        clear H
        have H := H1
        clear H1
        obtain rfl := Option.some.inj H
        exact absurd hr_ (by decide)
       ·replace c62 := Bool.eq_false_iff.mpr c62
        subst c62
        have H1 : ((tocsinlaw26_own.f kj15 t222).bind fun t242 => (tocsinlaw26_CodecSays.l0 kj15 l0 l1 l2 t226 t242 0)) = some r := by rw [if_neg (show ¬ (false = true) by decide)] at H; exact H
        clear H
        have H := H1
        clear H1
        replace H := Option.bind_eq_some_iff.mp H
        obtain ⟨t242, A630, H⟩ := H
        replace H : (tocsinlaw26_CodecSays.l0 kj15 l0 l1 l2 t226 t242 0) = some r := H
        have A63 := Aside0.mk A630
        clear A630
        have H' := Aside0.mk H
        clear H
        obtain ⟨Ao64, co64, eo64⟩ := Kd.R_slice HO_7.out
        subst eo64
        go_wp2_with (first | ((with_reducible refine gate_callee (f := 16) rfl ?_); refine goesL_ (some 91) rfl rfl Tryd.func16 (by kernel_rfl) rfl #[.slice Ao64 t222.length co64] rfl (by (try simp only [List.map_toArray, List.map_cons, List.map_nil]); first | done | rfl | (simp only [List.length_drop, List.length_take]; rfl)) ?_; (with_reducible refine (tocsinlaw26_own.calls kj15 _ _ t222 t242 _ ?side1 ?side2 A63.out).mono ?_); (case side1 => repeat (first | exact (Kd.R_reads' HO_7.out).2.2 | (with_reducible refine Kd.C_alloc ?_ _) | (with_reducible refine Kd.C_drewN ?_ _) | (with_reducible refine Kd.C_drew ?_))); (case side2 => exact (Kd.R_reads' HO_7.out).2.1); rintro e w65 ⟨v243, rfl, ho0, hb⟩; refine ⟨_, rfl, ?_⟩; have n0_ := Aside0.mk (Kd.R_below (by (with_reducible repeat (first | apply Kd.R_alloc | apply Kd.R_drewN | apply Kd.R_drew)); exact HO_7.out) hb); have n1_ := Aside0.mk (Kd.R_elder' (by (with_reducible repeat (first | apply Kd.R_alloc | apply Kd.R_drewN | apply Kd.R_drew)); exact HO_9.out) (Kd.R_base ho0) hb); have n2_ := Aside0.mk (Kd.R_lower (Kd.R_new' ho0 (Kd.R_lt (by (with_reducible repeat (first | apply Kd.R_alloc | apply Kd.R_drewN | apply Kd.R_drew)); exact HO_9.out))) (below_size (by repeat (first | (with_reducible first | exact HB.out | apply below_alloc | apply pw_below_drewN | apply below_drew1) | exact HB.out)))); have n3_ := Aside0.mk (below_step (by repeat (first | (with_reducible first | exact HB.out | apply below_alloc | apply pw_below_drewN | apply below_drew1) | exact HB.out)) hb); clear HO_7; clear HO_9; clear HB; have HO_7 := n0_; have HO_9 := n1_; have HO244 := n2_; have HB := n3_; clear n0_ n1_ n2_ n3_; (try clear hb); (try clear hb2); (try clear hk); (try clear hi); (try clear ho0)))
        go_loopg [16] kj15 (fun kq v16 w' => ∃ (x16_3 : Int), v16 = .int .i64 x16_3 ∧ Aside0 (tocsinlaw26_CodecSays.l0 kq l0 l1 l2 t226 t242 x16_3 = some r) ∧ Aside0 (kq ≤ kj15) ∧ Aside0 (Kd.R k44 44 w' w.heap.size (fun k_ => some k_ ≠ (v243 : Value).ownBlock) v228 t226) ∧ Aside0 (Kd.R k44 44 w' w.heap.size (fun k_ => some k_ ≠ (v228 : Value).ownBlock) v243 t242) ∧ Aside0 (Below w.heap.size w w'))
        case atStart => exact ⟨(0), (by first | rfl | (simp; done) | (simp [*]; done)), H', ⟨Nat.le_refl _⟩, ⟨by (with_reducible repeat (first | apply Kd.R_alloc | apply Kd.R_drewN | apply Kd.R_drew)); exact Kd.R_mono HO_9.out (fun _ hk => hk.2)⟩, ⟨by (with_reducible repeat (first | apply Kd.R_alloc | apply Kd.R_drewN | apply Kd.R_drew)); exact Kd.R_mono HO244.out (fun _ hk => hk.2)⟩, ⟨by repeat (first | (with_reducible first | exact HB.out | apply below_alloc | apply pw_below_drewN | apply below_drew1) | exact HB.out)⟩⟩
        case round =>
         clear H'
         try clear c1
         try clear c2
         try clear p2
         try clear c3
         try clear c4
         try clear c5
         try clear c6
         try clear c7
         try clear c8
         try clear c9
         try clear c10
         try clear c10b0
         try clear c10b1
         try clear c11
         try clear c12
         try clear c13
         try clear c14
         try clear c16
         try clear c21
         try clear c21b0
         try clear c21b1
         try clear c21b2
         try clear c22
         try clear c23
         try clear c23b0
         try clear c23b1
         try clear c23b2
         try clear c24
         try clear c26
         try clear c33
         try clear c33b0
         try clear c33b1
         try clear c35
         try clear c42
         try clear c42b0
         try clear c42b1
         try clear c43
         try clear c43b0
         try clear c43b1
         try clear c43b2
         try clear c44
         try clear c46
         try clear c53
         try clear c53b0
         try clear c53b1
         try clear c55
         try clear c62
         try clear p2
         obtain ⟨x16_3, rfl, HA, HK3, HO_9, HO_15, HB⟩ := hrel
         cases gk with
         | zero => exact absurd HA.out (by simp [tocsinlaw26_CodecSays.l0])
         | succ k3 =>
          have H := HA.out
          clear HA
          simp only [tocsinlaw26_CodecSays.l0] at H
          by_cases c66 : x16_3 < (t226.length : Int)
          ·rw [if_pos c66] at H
           have c66b0 : decide (x16_3 < (t226.length : Int)) = true := decide_eq_true c66
           clear c66
           by_cases c67 : 0 ≤ x16_3
           ·rw [if_pos c67] at H
            have c67b0 : decide (0 ≤ x16_3) = true := decide_eq_true c67
            clear c67
            by_cases c68 : x16_3 < (t242.length : Int)
            ·rw [if_pos c68] at H
             have c68b0 : decide (x16_3 < (t242.length : Int)) = true := decide_eq_true c68
             clear c68
             by_cases c69 : (!((((rd_T44 t242 x16_3).f0).toList) == (((rd_T44 t226 x16_3).f0).toList)) || (!(((rd_T44 t242 x16_3).f1) == ((rd_T44 t226 x16_3).f1)) || (!(((rd_T44 t242 x16_3).f2) == ((rd_T44 t226 x16_3).f2)) || (!(((rd_T44 t242 x16_3).f3) == ((rd_T44 t226 x16_3).f3)) || (!(((rd_T44 t242 x16_3).f4) == ((rd_T44 t226 x16_3).f4)) || (!(((rd_T44 t242 x16_3).f5) == ((rd_T44 t226 x16_3).f5)) || (!(((rd_T44 t242 x16_3).f6) == ((rd_T44 t226 x16_3).f6)) || (!(((rd_T44 t242 x16_3).f7) == ((rd_T44 t226 x16_3).f7)))))))))) = true
             ·rw [if_pos c69] at H
              have c69b0 : (!((((rd_T44 t242 x16_3).f0).toList) == (((rd_T44 t226 x16_3).f0).toList)) || (!(((rd_T44 t242 x16_3).f1) == ((rd_T44 t226 x16_3).f1)) || (!(((rd_T44 t242 x16_3).f2) == ((rd_T44 t226 x16_3).f2)) || (!(((rd_T44 t242 x16_3).f3) == ((rd_T44 t226 x16_3).f3)) || (!(((rd_T44 t242 x16_3).f4) == ((rd_T44 t226 x16_3).f4)) || (!(((rd_T44 t242 x16_3).f5) == ((rd_T44 t226 x16_3).f5)) || (!(((rd_T44 t242 x16_3).f6) == ((rd_T44 t226 x16_3).f6)) || (!(((rd_T44 t242 x16_3).f7) == ((rd_T44 t226 x16_3).f7)))))))))) = true := c69
              clear c69
              obtain rfl := Option.some.inj H
              obtain ⟨Ao70, co70, eo70⟩ := Kd.R_slice HO_9.out
              subst eo70
              try go_wp2
              have n0_ := Aside0.mk (Kd.R_drew HO_9.out)
              have n1_ := Aside0.mk (Kd.R_drew HO_15.out)
              have n2_ := Aside0.mk (below_drew1 HB.out)
              clear HO_9
              clear HO_15
              clear HB
              have HO_9 := n0_
              have HO_15 := n1_
              have HB := n2_
              clear n0_ n1_ n2_
              obtain ⟨Ao72, co72, eo72⟩ := Kd.R_slice HO_15.out
              (first | subst eo72 | (injection eo72 with f1_ f2_ f3_; have f4_ := f1_.symm; have f5_ := f3_.symm; clear f1_ f2_ f3_; subst f4_; subst f5_))
              have p245 : 0 ≤ (x16_3 : Int) := of_decide_eq_true (by first | (with_reducible assumption) | assumption)
              have q245 : x16_3 < (t242.length : Int) := of_decide_eq_true (by first | (with_reducible assumption) | assumption)
              obtain ⟨ad245, e245, hx245_0, hx245_1, hx245_2, hx245_3, hx245_4, hx245_5, hx245_6, hx245_7⟩ := at_T44 (Kd.R_reads' HO_15.out).2.2 x16_3 p245 q245
              cases e245
              replace p245 := eq_true p245
              replace q245 := eq_true q245
              have p246 : 0 ≤ (x16_3 : Int) := of_decide_eq_true (by first | (with_reducible assumption) | assumption)
              have q246 : x16_3 < (t226.length : Int) := of_decide_eq_true (by first | (with_reducible assumption) | assumption)
              obtain ⟨ad246, e246, hx246_0, hx246_1, hx246_2, hx246_3, hx246_4, hx246_5, hx246_6, hx246_7⟩ := at_T44 (Kd.R_reads' HO_9.out).2.2 x16_3 p246 q246
              cases e246
              replace p246 := eq_true p246
              replace q246 := eq_true q246
              refine start_ (n := 9) (S := fun w' => w'.cell? (ad245.add ((x16_3).toNat * 8)) = some (.string ((rd_T44 t242 x16_3).f0)) ∧ w'.cell? ⟨(ad245.add ((x16_3).toNat * 8)).block, (ad245.add ((x16_3).toNat * 8)).off + 1, none⟩ = some (.int .i64 ((rd_T44 t242 x16_3).f1)) ∧ w'.cell? ⟨(ad245.add ((x16_3).toNat * 8)).block, (ad245.add ((x16_3).toNat * 8)).off + 2, none⟩ = some (.int .i64 ((rd_T44 t242 x16_3).f2)) ∧ w'.cell? ⟨(ad245.add ((x16_3).toNat * 8)).block, (ad245.add ((x16_3).toNat * 8)).off + 3, none⟩ = some (.int .i64 ((rd_T44 t242 x16_3).f3)) ∧ w'.cell? ⟨(ad245.add ((x16_3).toNat * 8)).block, (ad245.add ((x16_3).toNat * 8)).off + 4, none⟩ = some (.int .i64 ((rd_T44 t242 x16_3).f4)) ∧ w'.cell? ⟨(ad245.add ((x16_3).toNat * 8)).block, (ad245.add ((x16_3).toNat * 8)).off + 5, none⟩ = some (.int .i64 ((rd_T44 t242 x16_3).f5)) ∧ w'.cell? ⟨(ad245.add ((x16_3).toNat * 8)).block, (ad245.add ((x16_3).toNat * 8)).off + 6, none⟩ = some (.int .i64 ((rd_T44 t242 x16_3).f6)) ∧ w'.cell? ⟨(ad245.add ((x16_3).toNat * 8)).block, (ad245.add ((x16_3).toNat * 8)).off + 7, none⟩ = some (.bool ((rd_T44 t242 x16_3).f7)) ∧ w'.cell? (ad246.add ((x16_3).toNat * 8)) = some (.string ((rd_T44 t226 x16_3).f0)) ∧ w'.cell? ⟨(ad246.add ((x16_3).toNat * 8)).block, (ad246.add ((x16_3).toNat * 8)).off + 1, none⟩ = some (.int .i64 ((rd_T44 t226 x16_3).f1)) ∧ w'.cell? ⟨(ad246.add ((x16_3).toNat * 8)).block, (ad246.add ((x16_3).toNat * 8)).off + 2, none⟩ = some (.int .i64 ((rd_T44 t226 x16_3).f2)) ∧ w'.cell? ⟨(ad246.add ((x16_3).toNat * 8)).block, (ad246.add ((x16_3).toNat * 8)).off + 3, none⟩ = some (.int .i64 ((rd_T44 t226 x16_3).f3)) ∧ w'.cell? ⟨(ad246.add ((x16_3).toNat * 8)).block, (ad246.add ((x16_3).toNat * 8)).off + 4, none⟩ = some (.int .i64 ((rd_T44 t226 x16_3).f4)) ∧ w'.cell? ⟨(ad246.add ((x16_3).toNat * 8)).block, (ad246.add ((x16_3).toNat * 8)).off + 5, none⟩ = some (.int .i64 ((rd_T44 t226 x16_3).f5)) ∧ w'.cell? ⟨(ad246.add ((x16_3).toNat * 8)).block, (ad246.add ((x16_3).toNat * 8)).off + 6, none⟩ = some (.int .i64 ((rd_T44 t226 x16_3).f6)) ∧ w'.cell? ⟨(ad246.add ((x16_3).toNat * 8)).block, (ad246.add ((x16_3).toNat * 8)).off + 7, none⟩ = some (.bool ((rd_T44 t226 x16_3).f7))) (ds := []) #[false, false, false, false, false, false, false, false, false] (by kernel_rfl) rfl rfl ⟨hx245_0, hx245_1, hx245_2, hx245_3, hx245_4, hx245_5, hx245_6, hx245_7, hx246_0, hx246_1, hx246_2, hx246_3, hx246_4, hx246_5, hx246_6, hx246_7⟩ (fun hHeld => ?_); refine with_tabW tocsinlaw26_CodecSays.tab15 tocsinlaw26_CodecSays.bits15 (fun HT_ HW_ => ?_)
              generalize wr.drew = w71 at HO_9 HO_15 HB hx245_0 hx245_1 hx245_2 hx245_3 hx245_4 hx245_5 hx245_6 hx245_7 hx246_0 hx246_1 hx246_2 hx246_3 hx246_4 hx246_5 hx246_6 hx246_7 hHeld ⊢
              refine pure_ (i := 0) (N := some 98) (v := ?_) (a' := ?_) #[true, false, false, false, false, false, false, false, false] rfl rfl (any_of HT_.out (by kernel_rfl)) (fun _ _ _ h => h) (Or.inl ⟨by rfl, ?_⟩) ?_ ?_
              rotate_left
              ·intro w'
               go_simp
               with_reducible rfl
              rotate_left
              ·simp only [Act.put, List.setIfInBounds_toArray, List.set_cons_zero, List.set_cons_succ, i64_w, i32_w]
               rfl
              refine pure_ (i := 1) (N := some 99) (v := ?_) (a' := ?_) #[true, true, false, false, false, false, false, false, false] rfl rfl (any_of HT_.out (by kernel_rfl)) (fun _ _ _ h => h) (Or.inl ⟨by rfl, ?_⟩) ?_ ?_
              rotate_left
              ·intro w'
               go_simp
               with_reducible rfl
              rotate_left
              ·simp only [Act.put, List.setIfInBounds_toArray, List.set_cons_zero, List.set_cons_succ, i64_w, i32_w]
               rfl
              refine pure_ (i := 2) (N := some 100) (v := ?_) (a' := ?_) #[true, true, true, false, false, false, false, false, false] rfl rfl (any_of HT_.out (by kernel_rfl)) (fun _ _ _ h => h) (Or.inl ⟨by rfl, ?_⟩) ?_ ?_
              rotate_left
              ·intro w'
               go_simp
               with_reducible rfl
              rotate_left
              ·simp only [Act.put, List.setIfInBounds_toArray, List.set_cons_zero, List.set_cons_succ, i64_w, i32_w]
               rfl
              refine pure_ (i := 4) (N := some 102) (v := ?_) (a' := ?_) #[true, true, true, false, true, false, false, false, false] rfl rfl (any_of HT_.out (by kernel_rfl)) (fun _ _ _ h => h) (Or.inl ⟨by rfl, ?_⟩) ?_ ?_
              rotate_left
              ·intro w'
               go_simp
               with_reducible rfl
              rotate_left
              ·simp only [Act.put, List.setIfInBounds_toArray, List.set_cons_zero, List.set_cons_succ, i64_w, i32_w]
               rfl
              refine pure_ (i := 5) (N := some 103) (v := ?_) (a' := ?_) #[true, true, true, false, true, true, false, false, false] rfl rfl (any_of HT_.out (by kernel_rfl)) (fun _ _ _ h => h) (Or.inl ⟨by rfl, ?_⟩) ?_ ?_
              rotate_left
              ·intro w'
               go_simp
               with_reducible rfl
              rotate_left
              ·simp only [Act.put, List.setIfInBounds_toArray, List.set_cons_zero, List.set_cons_succ, i64_w, i32_w]
               rfl
              refine pure_ (i := 6) (N := some 104) (v := ?_) (a' := ?_) #[true, true, true, false, true, true, true, false, false] rfl rfl (any_of HT_.out (by kernel_rfl)) (fun _ _ _ h => h) (Or.inl ⟨by rfl, ?_⟩) ?_ ?_
              rotate_left
              ·intro w'
               go_simp
               with_reducible rfl
              rotate_left
              ·simp only [Act.put, List.setIfInBounds_toArray, List.set_cons_zero, List.set_cons_succ, i64_w, i32_w]
               rfl
              refine take_ (i := 3) (N := some 101) (v := ?_) (a' := ?_) #[true, true, true, true, true, true, true, false, false] rfl rfl (take_ofW HT_.out HW_.out (by kernel_rfl)) (fun _ _ _ h => h) (Or.inl ⟨by rfl, ?_⟩) hHeld ?_ ?_
              rotate_left
              ·rintro w' ⟨s0, s1, s2, s3, s4, s5, s6, s7, s8, s9, s10, s11, s12, s13, s14, s15⟩
               go_simp
               with_reducible rfl
              rotate_left
              ·simp only [Act.put, List.setIfInBounds_toArray, List.set_cons_zero, List.set_cons_succ, i64_w, i32_w]
               rfl
              refine take_ (i := 7) (N := some 105) (v := ?_) (a' := ?_) #[true, true, true, true, true, true, true, true, false] rfl rfl (take_ofW HT_.out HW_.out (by kernel_rfl)) (fun _ _ _ h => h) (Or.inl ⟨by rfl, ?_⟩) hHeld ?_ ?_
              rotate_left
              ·rintro w' ⟨s0, s1, s2, s3, s4, s5, s6, s7, s8, s9, s10, s11, s12, s13, s14, s15⟩
               go_simp
               with_reducible rfl
              rotate_left
              ·simp only [Act.put, List.setIfInBounds_toArray, List.set_cons_zero, List.set_cons_succ, i64_w, i32_w]
               rfl
              refine pure_ (i := 8) (N := some 106) (v := ?_) (a' := ?_) #[true, true, true, true, true, true, true, true, true] rfl rfl (any_of HT_.out (by kernel_rfl)) (fun _ _ _ h => h) (Or.inl ⟨by rfl, ?_⟩) ?_ ?_
              rotate_left
              ·intro w'
               go_simp
               with_reducible rfl
              rotate_left
              ·simp only [Act.put, List.setIfInBounds_toArray, List.set_cons_zero, List.set_cons_succ, i64_w, i32_w]
               rfl
              refine done_ (done_of HT_.out (by kernel_rfl)) ?_
              try go_wp2
              go_ret
              exact ⟨by first | rfl | (simp [errW_none, errW_some] <;> rfl) | (simp [*, errW_none, errW_some] <;> rfl), by repeat (first | (with_reducible first | exact HB.out | apply below_alloc | apply pw_below_drewN | apply below_drew1) | exact HB.out)⟩
             ·rw [if_neg c69] at H
              have c69b0 : (!((((rd_T44 t242 x16_3).f0).toList) == (((rd_T44 t226 x16_3).f0).toList)) || (!(((rd_T44 t242 x16_3).f1) == ((rd_T44 t226 x16_3).f1)) || (!(((rd_T44 t242 x16_3).f2) == ((rd_T44 t226 x16_3).f2)) || (!(((rd_T44 t242 x16_3).f3) == ((rd_T44 t226 x16_3).f3)) || (!(((rd_T44 t242 x16_3).f4) == ((rd_T44 t226 x16_3).f4)) || (!(((rd_T44 t242 x16_3).f5) == ((rd_T44 t226 x16_3).f5)) || (!(((rd_T44 t242 x16_3).f6) == ((rd_T44 t226 x16_3).f6)) || (!(((rd_T44 t242 x16_3).f7) == ((rd_T44 t226 x16_3).f7)))))))))) = false := by simpa using c69
              clear c69
              have H' := Aside0.mk H
              clear H
              obtain ⟨Ao73, co73, eo73⟩ := Kd.R_slice HO_9.out
              subst eo73
              try go_wp2
              have n0_ := Aside0.mk (Kd.R_drew HO_9.out)
              have n1_ := Aside0.mk (Kd.R_drew HO_15.out)
              have n2_ := Aside0.mk (below_drew1 HB.out)
              clear HO_9
              clear HO_15
              clear HB
              have HO_9 := n0_
              have HO_15 := n1_
              have HB := n2_
              clear n0_ n1_ n2_
              obtain ⟨Ao75, co75, eo75⟩ := Kd.R_slice HO_15.out
              (first | subst eo75 | (injection eo75 with f1_ f2_ f3_; have f4_ := f1_.symm; have f5_ := f3_.symm; clear f1_ f2_ f3_; subst f4_; subst f5_))
              have p245 : 0 ≤ (x16_3 : Int) := of_decide_eq_true (by first | (with_reducible assumption) | assumption)
              have q245 : x16_3 < (t242.length : Int) := of_decide_eq_true (by first | (with_reducible assumption) | assumption)
              obtain ⟨ad245, e245, hx245_0, hx245_1, hx245_2, hx245_3, hx245_4, hx245_5, hx245_6, hx245_7⟩ := at_T44 (Kd.R_reads' HO_15.out).2.2 x16_3 p245 q245
              cases e245
              replace p245 := eq_true p245
              replace q245 := eq_true q245
              have p246 : 0 ≤ (x16_3 : Int) := of_decide_eq_true (by first | (with_reducible assumption) | assumption)
              have q246 : x16_3 < (t226.length : Int) := of_decide_eq_true (by first | (with_reducible assumption) | assumption)
              obtain ⟨ad246, e246, hx246_0, hx246_1, hx246_2, hx246_3, hx246_4, hx246_5, hx246_6, hx246_7⟩ := at_T44 (Kd.R_reads' HO_9.out).2.2 x16_3 p246 q246
              cases e246
              replace p246 := eq_true p246
              replace q246 := eq_true q246
              refine start_ (n := 9) (S := fun w' => w'.cell? (ad245.add ((x16_3).toNat * 8)) = some (.string ((rd_T44 t242 x16_3).f0)) ∧ w'.cell? ⟨(ad245.add ((x16_3).toNat * 8)).block, (ad245.add ((x16_3).toNat * 8)).off + 1, none⟩ = some (.int .i64 ((rd_T44 t242 x16_3).f1)) ∧ w'.cell? ⟨(ad245.add ((x16_3).toNat * 8)).block, (ad245.add ((x16_3).toNat * 8)).off + 2, none⟩ = some (.int .i64 ((rd_T44 t242 x16_3).f2)) ∧ w'.cell? ⟨(ad245.add ((x16_3).toNat * 8)).block, (ad245.add ((x16_3).toNat * 8)).off + 3, none⟩ = some (.int .i64 ((rd_T44 t242 x16_3).f3)) ∧ w'.cell? ⟨(ad245.add ((x16_3).toNat * 8)).block, (ad245.add ((x16_3).toNat * 8)).off + 4, none⟩ = some (.int .i64 ((rd_T44 t242 x16_3).f4)) ∧ w'.cell? ⟨(ad245.add ((x16_3).toNat * 8)).block, (ad245.add ((x16_3).toNat * 8)).off + 5, none⟩ = some (.int .i64 ((rd_T44 t242 x16_3).f5)) ∧ w'.cell? ⟨(ad245.add ((x16_3).toNat * 8)).block, (ad245.add ((x16_3).toNat * 8)).off + 6, none⟩ = some (.int .i64 ((rd_T44 t242 x16_3).f6)) ∧ w'.cell? ⟨(ad245.add ((x16_3).toNat * 8)).block, (ad245.add ((x16_3).toNat * 8)).off + 7, none⟩ = some (.bool ((rd_T44 t242 x16_3).f7)) ∧ w'.cell? (ad246.add ((x16_3).toNat * 8)) = some (.string ((rd_T44 t226 x16_3).f0)) ∧ w'.cell? ⟨(ad246.add ((x16_3).toNat * 8)).block, (ad246.add ((x16_3).toNat * 8)).off + 1, none⟩ = some (.int .i64 ((rd_T44 t226 x16_3).f1)) ∧ w'.cell? ⟨(ad246.add ((x16_3).toNat * 8)).block, (ad246.add ((x16_3).toNat * 8)).off + 2, none⟩ = some (.int .i64 ((rd_T44 t226 x16_3).f2)) ∧ w'.cell? ⟨(ad246.add ((x16_3).toNat * 8)).block, (ad246.add ((x16_3).toNat * 8)).off + 3, none⟩ = some (.int .i64 ((rd_T44 t226 x16_3).f3)) ∧ w'.cell? ⟨(ad246.add ((x16_3).toNat * 8)).block, (ad246.add ((x16_3).toNat * 8)).off + 4, none⟩ = some (.int .i64 ((rd_T44 t226 x16_3).f4)) ∧ w'.cell? ⟨(ad246.add ((x16_3).toNat * 8)).block, (ad246.add ((x16_3).toNat * 8)).off + 5, none⟩ = some (.int .i64 ((rd_T44 t226 x16_3).f5)) ∧ w'.cell? ⟨(ad246.add ((x16_3).toNat * 8)).block, (ad246.add ((x16_3).toNat * 8)).off + 6, none⟩ = some (.int .i64 ((rd_T44 t226 x16_3).f6)) ∧ w'.cell? ⟨(ad246.add ((x16_3).toNat * 8)).block, (ad246.add ((x16_3).toNat * 8)).off + 7, none⟩ = some (.bool ((rd_T44 t226 x16_3).f7))) (ds := []) #[false, false, false, false, false, false, false, false, false] (by kernel_rfl) rfl rfl ⟨hx245_0, hx245_1, hx245_2, hx245_3, hx245_4, hx245_5, hx245_6, hx245_7, hx246_0, hx246_1, hx246_2, hx246_3, hx246_4, hx246_5, hx246_6, hx246_7⟩ (fun hHeld => ?_); refine with_tabW tocsinlaw26_CodecSays.tab15 tocsinlaw26_CodecSays.bits15 (fun HT_ HW_ => ?_)
              generalize wr.drew = w74 at HO_9 HO_15 HB hx245_0 hx245_1 hx245_2 hx245_3 hx245_4 hx245_5 hx245_6 hx245_7 hx246_0 hx246_1 hx246_2 hx246_3 hx246_4 hx246_5 hx246_6 hx246_7 hHeld ⊢
              refine pure_ (i := 0) (N := some 98) (v := ?_) (a' := ?_) #[true, false, false, false, false, false, false, false, false] rfl rfl (any_of HT_.out (by kernel_rfl)) (fun _ _ _ h => h) (Or.inl ⟨by rfl, ?_⟩) ?_ ?_
              rotate_left
              ·intro w'
               go_simp
               with_reducible rfl
              rotate_left
              ·simp only [Act.put, List.setIfInBounds_toArray, List.set_cons_zero, List.set_cons_succ, i64_w, i32_w]
               rfl
              refine pure_ (i := 1) (N := some 99) (v := ?_) (a' := ?_) #[true, true, false, false, false, false, false, false, false] rfl rfl (any_of HT_.out (by kernel_rfl)) (fun _ _ _ h => h) (Or.inl ⟨by rfl, ?_⟩) ?_ ?_
              rotate_left
              ·intro w'
               go_simp
               with_reducible rfl
              rotate_left
              ·simp only [Act.put, List.setIfInBounds_toArray, List.set_cons_zero, List.set_cons_succ, i64_w, i32_w]
               rfl
              refine pure_ (i := 2) (N := some 100) (v := ?_) (a' := ?_) #[true, true, true, false, false, false, false, false, false] rfl rfl (any_of HT_.out (by kernel_rfl)) (fun _ _ _ h => h) (Or.inl ⟨by rfl, ?_⟩) ?_ ?_
              rotate_left
              ·intro w'
               go_simp
               with_reducible rfl
              rotate_left
              ·simp only [Act.put, List.setIfInBounds_toArray, List.set_cons_zero, List.set_cons_succ, i64_w, i32_w]
               rfl
              refine pure_ (i := 4) (N := some 102) (v := ?_) (a' := ?_) #[true, true, true, false, true, false, false, false, false] rfl rfl (any_of HT_.out (by kernel_rfl)) (fun _ _ _ h => h) (Or.inl ⟨by rfl, ?_⟩) ?_ ?_
              rotate_left
              ·intro w'
               go_simp
               with_reducible rfl
              rotate_left
              ·simp only [Act.put, List.setIfInBounds_toArray, List.set_cons_zero, List.set_cons_succ, i64_w, i32_w]
               rfl
              refine pure_ (i := 5) (N := some 103) (v := ?_) (a' := ?_) #[true, true, true, false, true, true, false, false, false] rfl rfl (any_of HT_.out (by kernel_rfl)) (fun _ _ _ h => h) (Or.inl ⟨by rfl, ?_⟩) ?_ ?_
              rotate_left
              ·intro w'
               go_simp
               with_reducible rfl
              rotate_left
              ·simp only [Act.put, List.setIfInBounds_toArray, List.set_cons_zero, List.set_cons_succ, i64_w, i32_w]
               rfl
              refine pure_ (i := 6) (N := some 104) (v := ?_) (a' := ?_) #[true, true, true, false, true, true, true, false, false] rfl rfl (any_of HT_.out (by kernel_rfl)) (fun _ _ _ h => h) (Or.inl ⟨by rfl, ?_⟩) ?_ ?_
              rotate_left
              ·intro w'
               go_simp
               with_reducible rfl
              rotate_left
              ·simp only [Act.put, List.setIfInBounds_toArray, List.set_cons_zero, List.set_cons_succ, i64_w, i32_w]
               rfl
              refine take_ (i := 3) (N := some 101) (v := ?_) (a' := ?_) #[true, true, true, true, true, true, true, false, false] rfl rfl (take_ofW HT_.out HW_.out (by kernel_rfl)) (fun _ _ _ h => h) (Or.inl ⟨by rfl, ?_⟩) hHeld ?_ ?_
              rotate_left
              ·rintro w' ⟨s0, s1, s2, s3, s4, s5, s6, s7, s8, s9, s10, s11, s12, s13, s14, s15⟩
               go_simp
               with_reducible rfl
              rotate_left
              ·simp only [Act.put, List.setIfInBounds_toArray, List.set_cons_zero, List.set_cons_succ, i64_w, i32_w]
               rfl
              refine take_ (i := 7) (N := some 105) (v := ?_) (a' := ?_) #[true, true, true, true, true, true, true, true, false] rfl rfl (take_ofW HT_.out HW_.out (by kernel_rfl)) (fun _ _ _ h => h) (Or.inl ⟨by rfl, ?_⟩) hHeld ?_ ?_
              rotate_left
              ·rintro w' ⟨s0, s1, s2, s3, s4, s5, s6, s7, s8, s9, s10, s11, s12, s13, s14, s15⟩
               go_simp
               with_reducible rfl
              rotate_left
              ·simp only [Act.put, List.setIfInBounds_toArray, List.set_cons_zero, List.set_cons_succ, i64_w, i32_w]
               rfl
              refine pure_ (i := 8) (N := some 106) (v := ?_) (a' := ?_) #[true, true, true, true, true, true, true, true, true] rfl rfl (any_of HT_.out (by kernel_rfl)) (fun _ _ _ h => h) (Or.inl ⟨by rfl, ?_⟩) ?_ ?_
              rotate_left
              ·intro w'
               go_simp
               with_reducible rfl
              rotate_left
              ·simp only [Act.put, List.setIfInBounds_toArray, List.set_cons_zero, List.set_cons_succ, i64_w, i32_w]
               rfl
              refine done_ (done_of HT_.out (by kernel_rfl)) ?_
              try go_wp2
              go_roundg k3
              case measure => have := HJ5.out; have := HJ15.out; have := HK3.out; omega
              case rel => exact ⟨(wrap64 (x16_3 + 1)), (by first | rfl | (simp; done) | (simp [*]; done)), H', ⟨by have := HJ5.out; have := HJ15.out; have := HK3.out; omega⟩, ⟨by (with_reducible repeat (first | apply Kd.R_alloc | apply Kd.R_drewN | apply Kd.R_drew)); exact HO_9.out⟩, ⟨by (with_reducible repeat (first | apply Kd.R_alloc | apply Kd.R_drewN | apply Kd.R_drew)); exact HO_15.out⟩, ⟨by repeat (first | (with_reducible first | exact HB.out | apply below_alloc | apply pw_below_drewN | apply below_drew1) | exact HB.out)⟩⟩
            ·rw [if_neg c68] at H
             exact absurd H (by simp)
           ·rw [if_neg c67] at H
            exact absurd H (by simp)
          ·rw [if_neg c66] at H
           have c66b0 : decide (x16_3 < (t226.length : Int)) = false := decide_eq_false c66
           clear c66
           replace H := Option.bind_eq_some_iff.mp H
           obtain ⟨t247, A760, H⟩ := H
           replace H : ((tocsinlaw26_own.f k3 l0).bind fun t250 => ((tocsinref8_PutJobs.f t250).bind fun t253 => (if (strOfNums t247).toList = (strOfNums t253).toList then ((codec_PutTrace.f k3 l1).bind fun t256 => ((tocsinref8_PutTrace.f k3 l1).bind fun t259 => (if (strOfNums t256).toList = (strOfNums t259).toList then ((codec_Sum.f k3 l2).bind fun t262 => ((tocsinref8_CodeSum.f k3 l2).bind fun t263 => (some (t262 == t263)))) else (some false)))) else (some false)))) = some r := H
           have A76 := Aside0.mk A760
           clear A760
           replace H := Option.bind_eq_some_iff.mp H
           obtain ⟨t250, A770, H⟩ := H
           replace H : ((tocsinref8_PutJobs.f t250).bind fun t253 => (if (strOfNums t247).toList = (strOfNums t253).toList then ((codec_PutTrace.f k3 l1).bind fun t256 => ((tocsinref8_PutTrace.f k3 l1).bind fun t259 => (if (strOfNums t256).toList = (strOfNums t259).toList then ((codec_Sum.f k3 l2).bind fun t262 => ((tocsinref8_CodeSum.f k3 l2).bind fun t263 => (some (t262 == t263)))) else (some false)))) else (some false))) = some r := H
           have A77 := Aside0.mk A770
           clear A770
           replace H := Option.bind_eq_some_iff.mp H
           obtain ⟨t253, A780, H⟩ := H
           replace H : (if (strOfNums t247).toList = (strOfNums t253).toList then ((codec_PutTrace.f k3 l1).bind fun t256 => ((tocsinref8_PutTrace.f k3 l1).bind fun t259 => (if (strOfNums t256).toList = (strOfNums t259).toList then ((codec_Sum.f k3 l2).bind fun t262 => ((tocsinref8_CodeSum.f k3 l2).bind fun t263 => (some (t262 == t263)))) else (some false)))) else (some false)) = some r := H
           have A78 := Aside0.mk A780
           clear A780
           by_cases c79 : (strOfNums t247).toList = (strOfNums t253).toList
           ·rw [if_pos c79] at H
            have c79b0 : ((strOfNums t247).toList == (strOfNums t253).toList) = true := beq_iff_eq.mpr c79
            have c79b1 : ((strOfNums t247).toList != (strOfNums t253).toList) = false := bne_eq_false_iff_eq.mpr c79
            clear c79
            replace H := Option.bind_eq_some_iff.mp H
            obtain ⟨t256, A800, H⟩ := H
            replace H : ((tocsinref8_PutTrace.f k3 l1).bind fun t259 => (if (strOfNums t256).toList = (strOfNums t259).toList then ((codec_Sum.f k3 l2).bind fun t262 => ((tocsinref8_CodeSum.f k3 l2).bind fun t263 => (some (t262 == t263)))) else (some false))) = some r := H
            have A80 := Aside0.mk A800
            clear A800
            replace H := Option.bind_eq_some_iff.mp H
            obtain ⟨t259, A810, H⟩ := H
            replace H : (if (strOfNums t256).toList = (strOfNums t259).toList then ((codec_Sum.f k3 l2).bind fun t262 => ((tocsinref8_CodeSum.f k3 l2).bind fun t263 => (some (t262 == t263)))) else (some false)) = some r := H
            have A81 := Aside0.mk A810
            clear A810
            by_cases c82 : (strOfNums t256).toList = (strOfNums t259).toList
            ·rw [if_pos c82] at H
             have c82b0 : ((strOfNums t256).toList == (strOfNums t259).toList) = true := beq_iff_eq.mpr c82
             have c82b1 : ((strOfNums t256).toList != (strOfNums t259).toList) = false := bne_eq_false_iff_eq.mpr c82
             clear c82
             replace H := Option.bind_eq_some_iff.mp H
             obtain ⟨t262, A830, H⟩ := H
             replace H : ((tocsinref8_CodeSum.f k3 l2).bind fun t263 => (some (t262 == t263))) = some r := H
             have A83 := Aside0.mk A830
             clear A830
             replace H := Option.bind_eq_some_iff.mp H
             obtain ⟨t263, A840, H⟩ := H
             replace H : (some (t262 == t263)) = some r := H
             have A84 := Aside0.mk A840
             clear A840
             obtain rfl := Option.some.inj H
             obtain ⟨Ao85, co85, eo85⟩ := Kd.R_slice HO_9.out
             subst eo85
             try go_wp2
             have n0_ := Aside0.mk (Kd.R_drew HO_9.out)
             have n1_ := Aside0.mk (Kd.R_drew HO_15.out)
             have n2_ := Aside0.mk (below_drew1 HB.out)
             clear HO_9
             clear HO_15
             clear HB
             have HO_9 := n0_
             have HO_15 := n1_
             have HB := n2_
             clear n0_ n1_ n2_
             refine start_ (n := 25) (S := fun w' => True) (ds := []) #[false, false, false, false, false, false, false, false, false, false, false, false, false, false, false, false, false, false, false, false, false, false, false, false, false] (by kernel_rfl) rfl rfl trivial (fun hHeld => ?_); refine with_tabW tocsinlaw26_CodecSays.tab17 tocsinlaw26_CodecSays.bits17 (fun HT_ HW_ => ?_)
             generalize wr.drew = w86 at HO_9 HO_15 HB hHeld ⊢
             refine pure_ (i := 0) (N := some 107) (v := ?_) (a' := ?_) #[true, false, false, false, false, false, false, false, false, false, false, false, false, false, false, false, false, false, false, false, false, false, false, false, false] rfl rfl (any_of HT_.out (by kernel_rfl)) (fun _ _ _ h => h) (Or.inl ⟨by rfl, ?_⟩) ?_ ?_
             rotate_left
             ·intro w'
              go_simp
              with_reducible rfl
             rotate_left
             ·simp only [Act.put, List.setIfInBounds_toArray, List.set_cons_zero, List.set_cons_succ, i64_w, i32_w]
              rfl
             refine pure_ (i := 3) (N := some 110) (v := ?_) (a' := ?_) #[true, false, false, true, false, false, false, false, false, false, false, false, false, false, false, false, false, false, false, false, false, false, false, false, false] rfl rfl (any_of HT_.out (by kernel_rfl)) (fun _ _ _ h => h) (Or.inl ⟨by rfl, ?_⟩) ?_ ?_
             rotate_left
             ·intro w'
              go_simp
              with_reducible rfl
             rotate_left
             ·simp only [Act.put, List.setIfInBounds_toArray, List.set_cons_zero, List.set_cons_succ, i64_w, i32_w]
              rfl
             refine one_ (i := 1) (N := some 108) #[true, true, false, true, false, false, false, false, false, false, false, false, false, false, false, false, false, false, false, false, false, false, false, false, false] rfl rfl (one_of HT_.out (by kernel_rfl)) (by decide) (fun K hK => ?_)
             refine goes_ Tryd.func9 (by kernel_rfl) rfl #[.slice A0 l0.length c0] (by rfl) rfl rfl (by (try simp only [List.map_toArray, List.map_cons, List.map_nil]); first | done | rfl | (simp only [List.length_drop, List.length_take]; rfl)) ?_
             with_reducible refine (codec_PutJobs.calls _ _ l0 t247 _ (tab_below HTb.out (by repeat (first | (with_reducible first | exact HB.out | apply below_alloc | apply pw_below_drewN | apply below_drew1) | exact HB.out))) ?side1 ?side2 A76.out).mono ?_
             (case side1 => repeat (first | exact (Kd.C_below HR0.out HB.out) | (with_reducible refine Kd.C_alloc ?_ _) | (with_reducible refine Kd.C_drewN ?_ _) | (with_reducible refine Kd.C_drew ?_)))
             (case side2 => exact HC0.out)
             rintro e w87 ⟨v248, rfl, ho0, hb⟩
             refine ⟨_, rfl, ?_⟩
             have n0_ := Aside0.mk (Kd.R_below (by (with_reducible repeat (first | apply Kd.R_alloc | apply Kd.R_drewN | apply Kd.R_drew)); exact HO_9.out) hb)
             have n1_ := Aside0.mk (Kd.R_below (by (with_reducible repeat (first | apply Kd.R_alloc | apply Kd.R_drewN | apply Kd.R_drew)); exact HO_15.out) hb)
             have n2_ := Aside0.mk (Kd.R_lower ho0 (below_size (by repeat (first | (with_reducible first | exact HB.out | apply below_alloc | apply pw_below_drewN | apply below_drew1) | exact HB.out))))
             have n3_ := Aside0.mk (below_step (by repeat (first | (with_reducible first | exact HB.out | apply below_alloc | apply pw_below_drewN | apply below_drew1) | exact HB.out)) hb)
             clear HO_9
             clear HO_15
             clear HB
             have HO_9 := n0_
             have HO_15 := n1_
             have HO249 := n2_
             have HB := n3_
             clear n0_ n1_ n2_ n3_
             (try clear hb)
             (try clear hb2)
             (try clear hk)
             (try clear hi)
             (try clear ho0)
             refine hK.out _ _ trivial (fun hHeld => ?_)
             clear hK K
             refine norm_ (a' := ?_) ?_ ?_
             rotate_left
             ·show Act.put _ (some 108) _ = _
              simp only [Act.put, List.setIfInBounds_toArray, List.set_cons_zero, List.set_cons_succ, i64_w, i32_w]
              rfl
             refine join_ (σ := Value × Value × Value × Value) 10 #[true, true, true, true, true, true, true, true, true, true, true, true, true, true, true, false, false, false, false, false, false, false, false, false, false] (fun s_ => [(109, .string (strOfNums t247)), (111, s_.1), (112, s_.2.1), (113, .string (strOfNums t253)), (117, s_.2.2.1), (118, .string (strOfNums t256)), (120, s_.2.2.2), (121, .string (strOfNums t259)), (114, .bool true), (115, .bool true), (116, .slice A1 l1.length c1), (119, .slice A1 l1.length c1)]) (fun s_ w' => (Kd.R (Kd.int .u8) 5 w' w.heap.size (fun k_ => some k_ ≠ (s_.2.1 : Value).ownBlock ∧ some k_ ≠ (s_.2.2.1 : Value).ownBlock ∧ some k_ ≠ (s_.2.2.2 : Value).ownBlock) v248 t247) ∧ (Kd.R k44 44 w' w.heap.size (fun k_ => some k_ ≠ (v243 : Value).ownBlock ∧ some k_ ≠ (.slice Ao85 t226.length co85 : Value).ownBlock) s_.1 t250) ∧ (Kd.R (Kd.int .u8) 5 w' w.heap.size (fun k_ => some k_ ≠ (v248 : Value).ownBlock ∧ some k_ ≠ (s_.2.2.1 : Value).ownBlock ∧ some k_ ≠ (s_.2.2.2 : Value).ownBlock) s_.2.1 t253) ∧ (Kd.R (Kd.int .u8) 5 w' w.heap.size (fun k_ => some k_ ≠ (v248 : Value).ownBlock ∧ some k_ ≠ (s_.2.1 : Value).ownBlock ∧ some k_ ≠ (s_.2.2.2 : Value).ownBlock) s_.2.2.1 t256) ∧ (Kd.R (Kd.int .u8) 5 w' w.heap.size (fun k_ => some k_ ≠ (v248 : Value).ownBlock ∧ some k_ ≠ (s_.2.1 : Value).ownBlock ∧ some k_ ≠ (s_.2.2.1 : Value).ownBlock) s_.2.2.2 t259) ∧ (Kd.R k44 44 w' w.heap.size (fun k_ => some k_ ≠ (s_.1 : Value).ownBlock ∧ some k_ ≠ (.slice Ao85 t226.length co85 : Value).ownBlock) v243 t242) ∧ (Kd.R k44 44 w' w.heap.size (fun k_ => some k_ ≠ (s_.1 : Value).ownBlock ∧ some k_ ≠ (v243 : Value).ownBlock) (.slice Ao85 t226.length co85) t226) ∧ (Below w.heap.size w w')) ?_ ?_
             rotate_left
             ·intro hJ2_4_5_6_10_11_13_14
              refine join_ (σ := Value × Value × Value × Value) 11 #[true, true, true, true, true, true, true, true, true, true, true, true, true, true, false, false, false, false, false, false, false, false, false, false, false] (fun s_ => [(109, .string (strOfNums t247)), (111, s_.1), (112, s_.2.1), (113, .string (strOfNums t253)), (117, s_.2.2.1), (118, .string (strOfNums t256)), (120, s_.2.2.2), (114, .bool true), (115, .bool true), (116, .slice A1 l1.length c1), (119, .slice A1 l1.length c1)]) (fun s_ w' => (Kd.R (Kd.int .u8) 5 w' w.heap.size (fun k_ => some k_ ≠ (s_.2.1 : Value).ownBlock ∧ some k_ ≠ (s_.2.2.1 : Value).ownBlock ∧ some k_ ≠ (s_.2.2.2 : Value).ownBlock) v248 t247) ∧ (Kd.R k44 44 w' w.heap.size (fun k_ => some k_ ≠ (v243 : Value).ownBlock ∧ some k_ ≠ (.slice Ao85 t226.length co85 : Value).ownBlock) s_.1 t250) ∧ (Kd.R (Kd.int .u8) 5 w' w.heap.size (fun k_ => some k_ ≠ (v248 : Value).ownBlock ∧ some k_ ≠ (s_.2.2.1 : Value).ownBlock ∧ some k_ ≠ (s_.2.2.2 : Value).ownBlock) s_.2.1 t253) ∧ (Kd.R (Kd.int .u8) 5 w' w.heap.size (fun k_ => some k_ ≠ (v248 : Value).ownBlock ∧ some k_ ≠ (s_.2.1 : Value).ownBlock ∧ some k_ ≠ (s_.2.2.2 : Value).ownBlock) s_.2.2.1 t256) ∧ (Kd.R (Kd.int .u8) 5 w' w.heap.size (fun k_ => some k_ ≠ (v248 : Value).ownBlock ∧ some k_ ≠ (s_.2.1 : Value).ownBlock ∧ some k_ ≠ (s_.2.2.1 : Value).ownBlock) s_.2.2.2 t259) ∧ (Kd.R k44 44 w' w.heap.size (fun k_ => some k_ ≠ (s_.1 : Value).ownBlock ∧ some k_ ≠ (.slice Ao85 t226.length co85 : Value).ownBlock) v243 t242) ∧ (Kd.R k44 44 w' w.heap.size (fun k_ => some k_ ≠ (s_.1 : Value).ownBlock ∧ some k_ ≠ (v243 : Value).ownBlock) (.slice Ao85 t226.length co85) t226) ∧ (Below w.heap.size w w')) ?_ ?_
              rotate_left
              ·intro hJ2_4_5_6_10_11_13
               refine join_ (σ := Value × Value × Value × Value) 11 #[true, true, true, true, true, true, true, true, true, true, true, false, true, true, true, false, false, false, false, false, false, false, false, false, false] (fun s_ => [(109, .string (strOfNums t247)), (111, s_.1), (112, s_.2.1), (113, .string (strOfNums t253)), (117, s_.2.2.1), (120, s_.2.2.2), (121, .string (strOfNums t259)), (114, .bool true), (115, .bool true), (116, .slice A1 l1.length c1), (119, .slice A1 l1.length c1)]) (fun s_ w' => (Kd.R (Kd.int .u8) 5 w' w.heap.size (fun k_ => some k_ ≠ (s_.2.1 : Value).ownBlock ∧ some k_ ≠ (s_.2.2.1 : Value).ownBlock ∧ some k_ ≠ (s_.2.2.2 : Value).ownBlock) v248 t247) ∧ (Kd.R k44 44 w' w.heap.size (fun k_ => some k_ ≠ (v243 : Value).ownBlock ∧ some k_ ≠ (.slice Ao85 t226.length co85 : Value).ownBlock) s_.1 t250) ∧ (Kd.R (Kd.int .u8) 5 w' w.heap.size (fun k_ => some k_ ≠ (v248 : Value).ownBlock ∧ some k_ ≠ (s_.2.2.1 : Value).ownBlock ∧ some k_ ≠ (s_.2.2.2 : Value).ownBlock) s_.2.1 t253) ∧ (Kd.R (Kd.int .u8) 5 w' w.heap.size (fun k_ => some k_ ≠ (v248 : Value).ownBlock ∧ some k_ ≠ (s_.2.1 : Value).ownBlock ∧ some k_ ≠ (s_.2.2.2 : Value).ownBlock) s_.2.2.1 t256) ∧ (Kd.R (Kd.int .u8) 5 w' w.heap.size (fun k_ => some k_ ≠ (v248 : Value).ownBlock ∧ some k_ ≠ (s_.2.1 : Value).ownBlock ∧ some k_ ≠ (s_.2.2.1 : Value).ownBlock) s_.2.2.2 t259) ∧ (Kd.R k44 44 w' w.heap.size (fun k_ => some k_ ≠ (s_.1 : Value).ownBlock ∧ some k_ ≠ (.slice Ao85 t226.length co85 : Value).ownBlock) v243 t242) ∧ (Kd.R k44 44 w' w.heap.size (fun k_ => some k_ ≠ (s_.1 : Value).ownBlock ∧ some k_ ≠ (v243 : Value).ownBlock) (.slice Ao85 t226.length co85) t226) ∧ (Below w.heap.size w w')) ?_ ?_
               rotate_left
               ·intro hJ2_4_5_6_10_13_14
                refine join_ (σ := Value × Value × Value) 12 #[true, true, true, true, true, true, true, true, true, true, true, true, true, false, false, false, false, false, false, false, false, false, false, false, false] (fun s_ => [(109, .string (strOfNums t247)), (111, s_.1), (112, s_.2.1), (113, .string (strOfNums t253)), (117, s_.2.2), (118, .string (strOfNums t256)), (114, .bool true), (115, .bool true), (116, .slice A1 l1.length c1), (119, .slice A1 l1.length c1)]) (fun s_ w' => (Kd.R (Kd.int .u8) 5 w' w.heap.size (fun k_ => some k_ ≠ (s_.2.1 : Value).ownBlock ∧ some k_ ≠ (s_.2.2 : Value).ownBlock) v248 t247) ∧ (Kd.R k44 44 w' w.heap.size (fun k_ => some k_ ≠ (v243 : Value).ownBlock ∧ some k_ ≠ (.slice Ao85 t226.length co85 : Value).ownBlock) s_.1 t250) ∧ (Kd.R (Kd.int .u8) 5 w' w.heap.size (fun k_ => some k_ ≠ (v248 : Value).ownBlock ∧ some k_ ≠ (s_.2.2 : Value).ownBlock) s_.2.1 t253) ∧ (Kd.R (Kd.int .u8) 5 w' w.heap.size (fun k_ => some k_ ≠ (v248 : Value).ownBlock ∧ some k_ ≠ (s_.2.1 : Value).ownBlock) s_.2.2 t256) ∧ (Kd.R k44 44 w' w.heap.size (fun k_ => some k_ ≠ (s_.1 : Value).ownBlock ∧ some k_ ≠ (.slice Ao85 t226.length co85 : Value).ownBlock) v243 t242) ∧ (Kd.R k44 44 w' w.heap.size (fun k_ => some k_ ≠ (s_.1 : Value).ownBlock ∧ some k_ ≠ (v243 : Value).ownBlock) (.slice Ao85 t226.length co85) t226) ∧ (Below w.heap.size w w')) ?_ ?_
                rotate_left
                ·intro hJ2_4_5_6_10_11
                 refine join_ (σ := Value × Value × Value × Value) 12 #[true, true, true, true, true, true, true, true, true, true, true, false, true, true, false, false, false, false, false, false, false, false, false, false, false] (fun s_ => [(109, .string (strOfNums t247)), (111, s_.1), (112, s_.2.1), (113, .string (strOfNums t253)), (117, s_.2.2.1), (120, s_.2.2.2), (114, .bool true), (115, .bool true), (116, .slice A1 l1.length c1), (119, .slice A1 l1.length c1)]) (fun s_ w' => (Kd.R (Kd.int .u8) 5 w' w.heap.size (fun k_ => some k_ ≠ (s_.2.1 : Value).ownBlock ∧ some k_ ≠ (s_.2.2.1 : Value).ownBlock ∧ some k_ ≠ (s_.2.2.2 : Value).ownBlock) v248 t247) ∧ (Kd.R k44 44 w' w.heap.size (fun k_ => some k_ ≠ (v243 : Value).ownBlock ∧ some k_ ≠ (.slice Ao85 t226.length co85 : Value).ownBlock) s_.1 t250) ∧ (Kd.R (Kd.int .u8) 5 w' w.heap.size (fun k_ => some k_ ≠ (v248 : Value).ownBlock ∧ some k_ ≠ (s_.2.2.1 : Value).ownBlock ∧ some k_ ≠ (s_.2.2.2 : Value).ownBlock) s_.2.1 t253) ∧ (Kd.R (Kd.int .u8) 5 w' w.heap.size (fun k_ => some k_ ≠ (v248 : Value).ownBlock ∧ some k_ ≠ (s_.2.1 : Value).ownBlock ∧ some k_ ≠ (s_.2.2.2 : Value).ownBlock) s_.2.2.1 t256) ∧ (Kd.R (Kd.int .u8) 5 w' w.heap.size (fun k_ => some k_ ≠ (v248 : Value).ownBlock ∧ some k_ ≠ (s_.2.1 : Value).ownBlock ∧ some k_ ≠ (s_.2.2.1 : Value).ownBlock) s_.2.2.2 t259) ∧ (Kd.R k44 44 w' w.heap.size (fun k_ => some k_ ≠ (s_.1 : Value).ownBlock ∧ some k_ ≠ (.slice Ao85 t226.length co85 : Value).ownBlock) v243 t242) ∧ (Kd.R k44 44 w' w.heap.size (fun k_ => some k_ ≠ (s_.1 : Value).ownBlock ∧ some k_ ≠ (v243 : Value).ownBlock) (.slice Ao85 t226.length co85) t226) ∧ (Below w.heap.size w w')) ?_ ?_
                 rotate_left
                 ·intro hJ2_4_5_6_10_13
                  refine join_ (σ := Value × Value × Value) 13 #[true, true, true, true, true, true, true, true, true, true, true, false, true, false, false, false, false, false, false, false, false, false, false, false, false] (fun s_ => [(109, .string (strOfNums t247)), (111, s_.1), (112, s_.2.1), (113, .string (strOfNums t253)), (117, s_.2.2), (114, .bool true), (115, .bool true), (116, .slice A1 l1.length c1), (119, .slice A1 l1.length c1)]) (fun s_ w' => (Kd.R (Kd.int .u8) 5 w' w.heap.size (fun k_ => some k_ ≠ (s_.2.1 : Value).ownBlock ∧ some k_ ≠ (s_.2.2 : Value).ownBlock) v248 t247) ∧ (Kd.R k44 44 w' w.heap.size (fun k_ => some k_ ≠ (v243 : Value).ownBlock ∧ some k_ ≠ (.slice Ao85 t226.length co85 : Value).ownBlock) s_.1 t250) ∧ (Kd.R (Kd.int .u8) 5 w' w.heap.size (fun k_ => some k_ ≠ (v248 : Value).ownBlock ∧ some k_ ≠ (s_.2.2 : Value).ownBlock) s_.2.1 t253) ∧ (Kd.R (Kd.int .u8) 5 w' w.heap.size (fun k_ => some k_ ≠ (v248 : Value).ownBlock ∧ some k_ ≠ (s_.2.1 : Value).ownBlock) s_.2.2 t256) ∧ (Kd.R k44 44 w' w.heap.size (fun k_ => some k_ ≠ (s_.1 : Value).ownBlock ∧ some k_ ≠ (.slice Ao85 t226.length co85 : Value).ownBlock) v243 t242) ∧ (Kd.R k44 44 w' w.heap.size (fun k_ => some k_ ≠ (s_.1 : Value).ownBlock ∧ some k_ ≠ (v243 : Value).ownBlock) (.slice Ao85 t226.length co85) t226) ∧ (Below w.heap.size w w')) ?_ ?_
                  rotate_left
                  ·intro hJ2_4_5_6_10
                   refine join_ (σ := Value × Value) 14 #[true, true, true, true, true, true, true, true, true, true, false, false, true, false, false, false, false, false, false, false, false, false, false, false, false] (fun s_ => [(109, .string (strOfNums t247)), (111, s_.1), (112, s_.2), (113, .string (strOfNums t253)), (114, .bool true), (115, .bool true), (116, .slice A1 l1.length c1), (119, .slice A1 l1.length c1)]) (fun s_ w' => (Kd.R (Kd.int .u8) 5 w' w.heap.size (fun k_ => some k_ ≠ (s_.2 : Value).ownBlock) v248 t247) ∧ (Kd.R k44 44 w' w.heap.size (fun k_ => some k_ ≠ (v243 : Value).ownBlock ∧ some k_ ≠ (.slice Ao85 t226.length co85 : Value).ownBlock) s_.1 t250) ∧ (Kd.R (Kd.int .u8) 5 w' w.heap.size (fun k_ => some k_ ≠ (v248 : Value).ownBlock) s_.2 t253) ∧ (Kd.R k44 44 w' w.heap.size (fun k_ => some k_ ≠ (s_.1 : Value).ownBlock ∧ some k_ ≠ (.slice Ao85 t226.length co85 : Value).ownBlock) v243 t242) ∧ (Kd.R k44 44 w' w.heap.size (fun k_ => some k_ ≠ (s_.1 : Value).ownBlock ∧ some k_ ≠ (v243 : Value).ownBlock) (.slice Ao85 t226.length co85) t226) ∧ (Below w.heap.size w w')) ?_ ?_
                   rotate_left
                   ·intro hJ2_4_5_6
                    refine join_ (σ := Value × Value) 19 #[true, true, true, true, true, true, false, false, false, false, false, false, false, false, false, false, false, false, false, false, false, false, false, false, false] (fun s_ => [(109, .string (strOfNums t247)), (111, s_.1), (112, s_.2)]) (fun s_ w' => (Kd.R (Kd.int .u8) 5 w' w.heap.size (fun k_ => some k_ ≠ (s_.2 : Value).ownBlock) v248 t247) ∧ (Kd.R k44 44 w' w.heap.size (fun k_ => some k_ ≠ (v243 : Value).ownBlock ∧ some k_ ≠ (.slice Ao85 t226.length co85 : Value).ownBlock) s_.1 t250) ∧ (Kd.R (Kd.int .u8) 5 w' w.heap.size (fun k_ => some k_ ≠ (v248 : Value).ownBlock) s_.2 t253) ∧ (Kd.R k44 44 w' w.heap.size (fun k_ => some k_ ≠ (s_.1 : Value).ownBlock ∧ some k_ ≠ (.slice Ao85 t226.length co85 : Value).ownBlock) v243 t242) ∧ (Kd.R k44 44 w' w.heap.size (fun k_ => some k_ ≠ (s_.1 : Value).ownBlock ∧ some k_ ≠ (v243 : Value).ownBlock) (.slice Ao85 t226.length co85) t226) ∧ (Below w.heap.size w w')) ?_ ?_
                    rotate_left
                    ·intro hJ2_4_5
                     refine join_ (σ := Value × Value) 19 #[true, true, false, true, true, true, true, false, false, false, false, false, false, false, false, false, false, false, false, false, false, false, false, false, false] (fun s_ => [(111, s_.1), (112, s_.2), (113, .string (strOfNums t253))]) (fun s_ w' => (Kd.R (Kd.int .u8) 5 w' w.heap.size (fun k_ => some k_ ≠ (s_.2 : Value).ownBlock) v248 t247) ∧ (Kd.R k44 44 w' w.heap.size (fun k_ => some k_ ≠ (v243 : Value).ownBlock ∧ some k_ ≠ (.slice Ao85 t226.length co85 : Value).ownBlock) s_.1 t250) ∧ (Kd.R (Kd.int .u8) 5 w' w.heap.size (fun k_ => some k_ ≠ (v248 : Value).ownBlock) s_.2 t253) ∧ (Kd.R k44 44 w' w.heap.size (fun k_ => some k_ ≠ (s_.1 : Value).ownBlock ∧ some k_ ≠ (.slice Ao85 t226.length co85 : Value).ownBlock) v243 t242) ∧ (Kd.R k44 44 w' w.heap.size (fun k_ => some k_ ≠ (s_.1 : Value).ownBlock ∧ some k_ ≠ (v243 : Value).ownBlock) (.slice Ao85 t226.length co85) t226) ∧ (Below w.heap.size w w')) ?_ ?_
                     rotate_left
                     ·intro hJ4_5_6
                      refine join_ (σ := Value) 20 #[true, true, true, true, true, false, false, false, false, false, false, false, false, false, false, false, false, false, false, false, false, false, false, false, false] (fun s_ => [(109, .string (strOfNums t247)), (111, s_)]) (fun s_ w' => (Kd.R (Kd.int .u8) 5 w' w.heap.size (fun _ => True) v248 t247) ∧ (Kd.R k44 44 w' w.heap.size (fun k_ => some k_ ≠ (v243 : Value).ownBlock ∧ some k_ ≠ (.slice Ao85 t226.length co85 : Value).ownBlock) s_ t250) ∧ (Kd.R k44 44 w' w.heap.size (fun k_ => some k_ ≠ (s_ : Value).ownBlock ∧ some k_ ≠ (.slice Ao85 t226.length co85 : Value).ownBlock) v243 t242) ∧ (Kd.R k44 44 w' w.heap.size (fun k_ => some k_ ≠ (s_ : Value).ownBlock ∧ some k_ ≠ (v243 : Value).ownBlock) (.slice Ao85 t226.length co85) t226) ∧ (Below w.heap.size w w')) ?_ ?_
                      rotate_left
                      ·intro hJ2_4
                       refine join_ (σ := Value × Value) 20 #[true, true, false, true, true, true, false, false, false, false, false, false, false, false, false, false, false, false, false, false, false, false, false, false, false] (fun s_ => [(111, s_.1), (112, s_.2)]) (fun s_ w' => (Kd.R (Kd.int .u8) 5 w' w.heap.size (fun k_ => some k_ ≠ (s_.2 : Value).ownBlock) v248 t247) ∧ (Kd.R k44 44 w' w.heap.size (fun k_ => some k_ ≠ (v243 : Value).ownBlock ∧ some k_ ≠ (.slice Ao85 t226.length co85 : Value).ownBlock) s_.1 t250) ∧ (Kd.R (Kd.int .u8) 5 w' w.heap.size (fun k_ => some k_ ≠ (v248 : Value).ownBlock) s_.2 t253) ∧ (Kd.R k44 44 w' w.heap.size (fun k_ => some k_ ≠ (s_.1 : Value).ownBlock ∧ some k_ ≠ (.slice Ao85 t226.length co85 : Value).ownBlock) v243 t242) ∧ (Kd.R k44 44 w' w.heap.size (fun k_ => some k_ ≠ (s_.1 : Value).ownBlock ∧ some k_ ≠ (v243 : Value).ownBlock) (.slice Ao85 t226.length co85) t226) ∧ (Below w.heap.size w w')) ?_ ?_
                       rotate_left
                       ·intro hJ4_5
                        refine join_ (σ := Unit) 21 #[true, true, true, true, false, false, false, false, false, false, false, false, false, false, false, false, false, false, false, false, false, false, false, false, false] (fun s_ => [(109, .string (strOfNums t247))]) (fun s_ w' => (Kd.R (Kd.int .u8) 5 w' w.heap.size (fun _ => True) v248 t247) ∧ (Kd.R k44 44 w' w.heap.size (fun k_ => some k_ ≠ (.slice Ao85 t226.length co85 : Value).ownBlock) v243 t242) ∧ (Kd.R k44 44 w' w.heap.size (fun k_ => some k_ ≠ (v243 : Value).ownBlock) (.slice Ao85 t226.length co85) t226) ∧ (Below w.heap.size w w')) ?_ ?_
                        rotate_left
                        ·intro hJ2
                         refine join_ (σ := Value) 21 #[true, true, false, true, true, false, false, false, false, false, false, false, false, false, false, false, false, false, false, false, false, false, false, false, false] (fun s_ => [(111, s_)]) (fun s_ w' => (Kd.R (Kd.int .u8) 5 w' w.heap.size (fun _ => True) v248 t247) ∧ (Kd.R k44 44 w' w.heap.size (fun k_ => some k_ ≠ (v243 : Value).ownBlock ∧ some k_ ≠ (.slice Ao85 t226.length co85 : Value).ownBlock) s_ t250) ∧ (Kd.R k44 44 w' w.heap.size (fun k_ => some k_ ≠ (s_ : Value).ownBlock ∧ some k_ ≠ (.slice Ao85 t226.length co85 : Value).ownBlock) v243 t242) ∧ (Kd.R k44 44 w' w.heap.size (fun k_ => some k_ ≠ (s_ : Value).ownBlock ∧ some k_ ≠ (v243 : Value).ownBlock) (.slice Ao85 t226.length co85) t226) ∧ (Below w.heap.size w w')) ?_ ?_
                         rotate_left
                         ·intro hJ4
                          refine two_ (i := 2) (j := 4) (Ni := some 109) (Nj := some 111) #[true, true, true, true, false, false, false, false, false, false, false, false, false, false, false, false, false, false, false, false, false, false, false, false, false] #[true, true, false, true, true, false, false, false, false, false, false, false, false, false, false, false, false, false, false, false, false, false, false, false, false] rfl rfl rfl rfl (two_of HT_.out (by kernel_rfl)) (by decide) (by decide) (fun K hK => ?_) (fun K hK => ?_)
                          ·skip
                           have hcv88 := own_string (P := Tryd.prog) Tryd.underlying27 Tryd.underlying5 Tryd.underlying9 (Kd.own_of_R HO249.out)
                           refine value_ (w1 := ?_) (v := ?_) (by rfl) rfl ?_ ?_
                           rotate_left 2
                           ·go_simp
                            constructor
                            ·rfl
                            ·rfl
                           clear hcv88
                           refine hK.out _ _ trivial (fun hHeld => ?_)
                           clear hK K
                           refine norm_ (a' := ?_) ?_ ?_
                           rotate_left
                           ·show Act.put _ (some 109) _ = _
                            simp only [Act.put, List.setIfInBounds_toArray, List.set_cons_zero, List.set_cons_succ, i64_w, i32_w]
                            rfl
                           exact norm_ (by first | (simp only [putAll, Act.put, List.setIfInBounds_toArray, List.set_cons_zero, List.set_cons_succ]; done) | (simp only [putAll, Act.put, List.setIfInBounds_toArray, List.set_cons_zero, List.set_cons_succ]; rfl)) (hJ2 () _ ⟨(by (with_reducible repeat (first | apply Kd.R_alloc | apply Kd.R_drewN | apply Kd.R_drew)); exact HO249.out), (by (with_reducible repeat (first | apply Kd.R_alloc | apply Kd.R_drewN | apply Kd.R_drew)); exact HO_15.out), (by (with_reducible repeat (first | apply Kd.R_alloc | apply Kd.R_drewN | apply Kd.R_drew)); exact HO_9.out), (by repeat (first | (with_reducible first | exact HB.out | apply below_alloc | apply pw_below_drewN | apply below_drew1) | exact HB.out))⟩)
                          ·skip
                           refine goes_ Tryd.func16 (by kernel_rfl) rfl #[.slice A0 l0.length c0] (by rfl) rfl rfl (by (try simp only [List.map_toArray, List.map_cons, List.map_nil]); first | done | rfl | (simp only [List.length_drop, List.length_take]; rfl)) ?_
                           with_reducible refine (tocsinlaw26_own.calls k3 _ _ l0 t250 _ ?side1 ?side2 A77.out).mono ?_
                           (case side1 => repeat (first | exact (Kd.C_below HR0.out HB.out) | (with_reducible refine Kd.C_alloc ?_ _) | (with_reducible refine Kd.C_drewN ?_ _) | (with_reducible refine Kd.C_drew ?_)))
                           (case side2 => exact HC0.out)
                           rintro e w88 ⟨v251, rfl, ho0, hb⟩
                           refine ⟨_, rfl, ?_⟩
                           have n0_ := Aside0.mk (Kd.R_elder' (by (with_reducible repeat (first | apply Kd.R_alloc | apply Kd.R_drewN | apply Kd.R_drew)); exact HO_9.out) (Kd.R_base ho0) hb)
                           have n1_ := Aside0.mk (Kd.R_elder' (by (with_reducible repeat (first | apply Kd.R_alloc | apply Kd.R_drewN | apply Kd.R_drew)); exact HO_15.out) (Kd.R_base ho0) hb)
                           have n2_ := Aside0.mk (Kd.R_below (by (with_reducible repeat (first | apply Kd.R_alloc | apply Kd.R_drewN | apply Kd.R_drew)); exact HO249.out) hb)
                           have n3_ := Aside0.mk (Kd.R_lower (Kd.R_new' (Kd.R_new' ho0 (Kd.R_lt (by (with_reducible repeat (first | apply Kd.R_alloc | apply Kd.R_drewN | apply Kd.R_drew)); exact HO_9.out))) (Kd.R_lt (by (with_reducible repeat (first | apply Kd.R_alloc | apply Kd.R_drewN | apply Kd.R_drew)); exact HO_15.out))) (below_size (by repeat (first | (with_reducible first | exact HB.out | apply below_alloc | apply pw_below_drewN | apply below_drew1) | exact HB.out))))
                           have n4_ := Aside0.mk (below_step (by repeat (first | (with_reducible first | exact HB.out | apply below_alloc | apply pw_below_drewN | apply below_drew1) | exact HB.out)) hb)
                           clear HO_9
                           clear HO_15
                           clear HO249
                           clear HB
                           have HO_9 := n0_
                           have HO_15 := n1_
                           have HO249 := n2_
                           have HO252 := n3_
                           have HB := n4_
                           clear n0_ n1_ n2_ n3_ n4_
                           (try clear hb)
                           (try clear hb2)
                           (try clear hk)
                           (try clear hi)
                           (try clear ho0)
                           refine hK.out _ _ trivial (fun hHeld => ?_)
                           clear hK K
                           refine norm_ (a' := ?_) ?_ ?_
                           rotate_left
                           ·show Act.put _ (some 111) _ = _
                            simp only [Act.put, List.setIfInBounds_toArray, List.set_cons_zero, List.set_cons_succ, i64_w, i32_w]
                            rfl
                           exact norm_ (by first | (simp only [putAll, Act.put, List.setIfInBounds_toArray, List.set_cons_zero, List.set_cons_succ]; done) | (simp only [putAll, Act.put, List.setIfInBounds_toArray, List.set_cons_zero, List.set_cons_succ]; rfl)) (hJ4 (v251) _ ⟨(by (with_reducible repeat (first | apply Kd.R_alloc | apply Kd.R_drewN | apply Kd.R_drew)); exact HO249.out), (by (with_reducible repeat (first | apply Kd.R_alloc | apply Kd.R_drewN | apply Kd.R_drew)); exact Kd.R_mono HO252.out (fun _ hk => ⟨hk.2, hk.1.2⟩)), (by (with_reducible repeat (first | apply Kd.R_alloc | apply Kd.R_drewN | apply Kd.R_drew)); exact Kd.R_mono HO_15.out (fun _ hk => ⟨hk.2, hk.1⟩)), (by (with_reducible repeat (first | apply Kd.R_alloc | apply Kd.R_drewN | apply Kd.R_drew)); exact Kd.R_mono HO_9.out (fun _ hk => ⟨hk.2, hk.1⟩)), (by repeat (first | (with_reducible first | exact HB.out | apply below_alloc | apply pw_below_drewN | apply below_drew1) | exact HB.out))⟩)
                         ·skip
                          rintro v251 w89 ⟨h0_, h1_, h2_, h3_, h4_⟩
                          have n0_ : Aside0 (Kd.R (Kd.int .u8) 5 w89 w.heap.size (fun _ => True) v248 t247) := ⟨h0_⟩
                          have n1_ : Aside0 (Kd.R k44 44 w89 w.heap.size (fun k_ => some k_ ≠ (v243 : Value).ownBlock ∧ some k_ ≠ (.slice Ao85 t226.length co85 : Value).ownBlock) v251 t250) := ⟨h1_⟩
                          have n2_ : Aside0 (Kd.R k44 44 w89 w.heap.size (fun k_ => some k_ ≠ (v251 : Value).ownBlock ∧ some k_ ≠ (.slice Ao85 t226.length co85 : Value).ownBlock) v243 t242) := ⟨h2_⟩
                          have n3_ : Aside0 (Kd.R k44 44 w89 w.heap.size (fun k_ => some k_ ≠ (v251 : Value).ownBlock ∧ some k_ ≠ (v243 : Value).ownBlock) (.slice Ao85 t226.length co85) t226) := ⟨h3_⟩
                          have n4_ : Aside0 (Below w.heap.size w w89) := ⟨h4_⟩
                          clear HO_9
                          clear HO_15
                          clear HB
                          clear h0_ h1_ h2_ h3_ h4_
                          have HO249 := n0_
                          have HO252 := n1_
                          have HO_15 := n2_
                          have HO_9 := n3_
                          have HB := n4_
                          clear n0_ n1_ n2_ n3_ n4_
                          have hHeld := trivial
                          refine norm_ (a' := ?_) ?_ ?_
                          rotate_left
                          ·simp only [putAll, Act.put, List.setIfInBounds_toArray, List.set_cons_zero, List.set_cons_succ]
                           rfl
                          refine two_ (i := 2) (j := 5) (Ni := some 109) (Nj := some 112) #[true, true, true, true, true, false, false, false, false, false, false, false, false, false, false, false, false, false, false, false, false, false, false, false, false] #[true, true, false, true, true, true, false, false, false, false, false, false, false, false, false, false, false, false, false, false, false, false, false, false, false] rfl rfl rfl rfl (two_of HT_.out (by kernel_rfl)) (by decide) (by decide) (fun K hK => ?_) (fun K hK => ?_)
                          ·skip
                           have hcv90 := own_string (P := Tryd.prog) Tryd.underlying27 Tryd.underlying5 Tryd.underlying9 (Kd.own_of_R HO249.out)
                           refine value_ (w1 := ?_) (v := ?_) (by rfl) rfl ?_ ?_
                           rotate_left 2
                           ·go_simp
                            constructor
                            ·rfl
                            ·rfl
                           clear hcv90
                           refine hK.out _ _ trivial (fun hHeld => ?_)
                           clear hK K
                           refine norm_ (a' := ?_) ?_ ?_
                           rotate_left
                           ·show Act.put _ (some 109) _ = _
                            simp only [Act.put, List.setIfInBounds_toArray, List.set_cons_zero, List.set_cons_succ, i64_w, i32_w]
                            rfl
                           exact norm_ (by first | (simp only [putAll, Act.put, List.setIfInBounds_toArray, List.set_cons_zero, List.set_cons_succ]; done) | (simp only [putAll, Act.put, List.setIfInBounds_toArray, List.set_cons_zero, List.set_cons_succ]; rfl)) (hJ2_4 (v251) _ ⟨(by (with_reducible repeat (first | apply Kd.R_alloc | apply Kd.R_drewN | apply Kd.R_drew)); exact HO249.out), (by (with_reducible repeat (first | apply Kd.R_alloc | apply Kd.R_drewN | apply Kd.R_drew)); exact HO252.out), (by (with_reducible repeat (first | apply Kd.R_alloc | apply Kd.R_drewN | apply Kd.R_drew)); exact HO_15.out), (by (with_reducible repeat (first | apply Kd.R_alloc | apply Kd.R_drewN | apply Kd.R_drew)); exact HO_9.out), (by repeat (first | (with_reducible first | exact HB.out | apply below_alloc | apply pw_below_drewN | apply below_drew1) | exact HB.out))⟩)
                          ·skip
                           obtain ⟨Ao90, co90, rfl⟩ := Kd.R_slice HO252.out
                           refine goes_ Tryd.func17 (by kernel_rfl) rfl #[.slice Ao90 t250.length co90] (by rfl) rfl rfl (by (try simp only [List.map_toArray, List.map_cons, List.map_nil]); first | done | rfl | (simp only [List.length_drop, List.length_take]; rfl)) ?_
                           with_reducible refine (tocsinref8_PutJobs.calls _ _ t250 t253 _ (tab_below HTb.out (by repeat (first | (with_reducible first | exact HB.out | apply below_alloc | apply pw_below_drewN | apply below_drew1) | exact HB.out))) ?side1 ?side2 A78.out).mono ?_
                           (case side1 => repeat (first | exact (Kd.R_reads' HO252.out).2.2 | (with_reducible refine Kd.C_alloc ?_ _) | (with_reducible refine Kd.C_drewN ?_ _) | (with_reducible refine Kd.C_drew ?_)))
                           (case side2 => exact (Kd.R_reads' HO252.out).2.1)
                           rintro e w91 ⟨v254, rfl, ho0, hb⟩
                           refine ⟨_, rfl, ?_⟩
                           have n0_ := Aside0.mk (Kd.R_below (by (with_reducible repeat (first | apply Kd.R_alloc | apply Kd.R_drewN | apply Kd.R_drew)); exact HO_9.out) hb)
                           have n1_ := Aside0.mk (Kd.R_below (by (with_reducible repeat (first | apply Kd.R_alloc | apply Kd.R_drewN | apply Kd.R_drew)); exact HO_15.out) hb)
                           have n2_ := Aside0.mk (Kd.R_elder' (by (with_reducible repeat (first | apply Kd.R_alloc | apply Kd.R_drewN | apply Kd.R_drew)); exact HO249.out) (Kd.R_base ho0) hb)
                           have n3_ := Aside0.mk (Kd.R_below (by (with_reducible repeat (first | apply Kd.R_alloc | apply Kd.R_drewN | apply Kd.R_drew)); exact HO252.out) hb)
                           have n4_ := Aside0.mk (Kd.R_lower (Kd.R_new' ho0 (Kd.R_lt (by (with_reducible repeat (first | apply Kd.R_alloc | apply Kd.R_drewN | apply Kd.R_drew)); exact HO249.out))) (below_size (by repeat (first | (with_reducible first | exact HB.out | apply below_alloc | apply pw_below_drewN | apply below_drew1) | exact HB.out))))
                           have n5_ := Aside0.mk (below_step (by repeat (first | (with_reducible first | exact HB.out | apply below_alloc | apply pw_below_drewN | apply below_drew1) | exact HB.out)) hb)
                           clear HO_9
                           clear HO_15
                           clear HO249
                           clear HO252
                           clear HB
                           have HO_9 := n0_
                           have HO_15 := n1_
                           have HO249 := n2_
                           have HO252 := n3_
                           have HO255 := n4_
                           have HB := n5_
                           clear n0_ n1_ n2_ n3_ n4_ n5_
                           (try clear hb)
                           (try clear hb2)
                           (try clear hk)
                           (try clear hi)
                           (try clear ho0)
                           refine hK.out _ _ trivial (fun hHeld => ?_)
                           clear hK K
                           refine norm_ (a' := ?_) ?_ ?_
                           rotate_left
                           ·show Act.put _ (some 112) _ = _
                            simp only [Act.put, List.setIfInBounds_toArray, List.set_cons_zero, List.set_cons_succ, i64_w, i32_w]
                            rfl
                           exact norm_ (by first | (simp only [putAll, Act.put, List.setIfInBounds_toArray, List.set_cons_zero, List.set_cons_succ]; done) | (simp only [putAll, Act.put, List.setIfInBounds_toArray, List.set_cons_zero, List.set_cons_succ]; rfl)) (hJ4_5 (.slice Ao90 t250.length co90, v254) _ ⟨(by (with_reducible repeat (first | apply Kd.R_alloc | apply Kd.R_drewN | apply Kd.R_drew)); exact Kd.R_mono HO249.out (fun _ hk => hk.2)), (by (with_reducible repeat (first | apply Kd.R_alloc | apply Kd.R_drewN | apply Kd.R_drew)); exact HO252.out), (by (with_reducible repeat (first | apply Kd.R_alloc | apply Kd.R_drewN | apply Kd.R_drew)); exact Kd.R_mono HO255.out (fun _ hk => hk.2)), (by (with_reducible repeat (first | apply Kd.R_alloc | apply Kd.R_drewN | apply Kd.R_drew)); exact HO_15.out), (by (with_reducible repeat (first | apply Kd.R_alloc | apply Kd.R_drewN | apply Kd.R_drew)); exact HO_9.out), (by repeat (first | (with_reducible first | exact HB.out | apply below_alloc | apply pw_below_drewN | apply below_drew1) | exact HB.out))⟩)
                        ·skip
                         rintro _ w89 ⟨h0_, h1_, h2_, h3_⟩
                         have n0_ : Aside0 (Kd.R (Kd.int .u8) 5 w89 w.heap.size (fun _ => True) v248 t247) := ⟨h0_⟩
                         have n1_ : Aside0 (Kd.R k44 44 w89 w.heap.size (fun k_ => some k_ ≠ (.slice Ao85 t226.length co85 : Value).ownBlock) v243 t242) := ⟨h1_⟩
                         have n2_ : Aside0 (Kd.R k44 44 w89 w.heap.size (fun k_ => some k_ ≠ (v243 : Value).ownBlock) (.slice Ao85 t226.length co85) t226) := ⟨h2_⟩
                         have n3_ : Aside0 (Below w.heap.size w w89) := ⟨h3_⟩
                         clear HO_9
                         clear HO_15
                         clear HB
                         clear h0_ h1_ h2_ h3_
                         have HO249 := n0_
                         have HO_15 := n1_
                         have HO_9 := n2_
                         have HB := n3_
                         clear n0_ n1_ n2_ n3_
                         have hHeld := trivial
                         refine norm_ (a' := ?_) ?_ ?_
                         rotate_left
                         ·simp only [putAll, Act.put, List.setIfInBounds_toArray, List.set_cons_zero, List.set_cons_succ]
                          rfl
                         refine one_ (i := 4) (N := some 111) #[true, true, true, true, true, false, false, false, false, false, false, false, false, false, false, false, false, false, false, false, false, false, false, false, false] rfl rfl (one_of HT_.out (by kernel_rfl)) (by decide) (fun K hK => ?_)
                         refine goes_ Tryd.func16 (by kernel_rfl) rfl #[.slice A0 l0.length c0] (by rfl) rfl rfl (by (try simp only [List.map_toArray, List.map_cons, List.map_nil]); first | done | rfl | (simp only [List.length_drop, List.length_take]; rfl)) ?_
                         with_reducible refine (tocsinlaw26_own.calls k3 _ _ l0 t250 _ ?side1 ?side2 A77.out).mono ?_
                         (case side1 => repeat (first | exact (Kd.C_below HR0.out HB.out) | (with_reducible refine Kd.C_alloc ?_ _) | (with_reducible refine Kd.C_drewN ?_ _) | (with_reducible refine Kd.C_drew ?_)))
                         (case side2 => exact HC0.out)
                         rintro e w90 ⟨v251, rfl, ho0, hb⟩
                         refine ⟨_, rfl, ?_⟩
                         have n0_ := Aside0.mk (Kd.R_elder' (by (with_reducible repeat (first | apply Kd.R_alloc | apply Kd.R_drewN | apply Kd.R_drew)); exact HO_9.out) (Kd.R_base ho0) hb)
                         have n1_ := Aside0.mk (Kd.R_elder' (by (with_reducible repeat (first | apply Kd.R_alloc | apply Kd.R_drewN | apply Kd.R_drew)); exact HO_15.out) (Kd.R_base ho0) hb)
                         have n2_ := Aside0.mk (Kd.R_below (by (with_reducible repeat (first | apply Kd.R_alloc | apply Kd.R_drewN | apply Kd.R_drew)); exact HO249.out) hb)
                         have n3_ := Aside0.mk (Kd.R_lower (Kd.R_new' (Kd.R_new' ho0 (Kd.R_lt (by (with_reducible repeat (first | apply Kd.R_alloc | apply Kd.R_drewN | apply Kd.R_drew)); exact HO_9.out))) (Kd.R_lt (by (with_reducible repeat (first | apply Kd.R_alloc | apply Kd.R_drewN | apply Kd.R_drew)); exact HO_15.out))) (below_size (by repeat (first | (with_reducible first | exact HB.out | apply below_alloc | apply pw_below_drewN | apply below_drew1) | exact HB.out))))
                         have n4_ := Aside0.mk (below_step (by repeat (first | (with_reducible first | exact HB.out | apply below_alloc | apply pw_below_drewN | apply below_drew1) | exact HB.out)) hb)
                         clear HO_9
                         clear HO_15
                         clear HO249
                         clear HB
                         have HO_9 := n0_
                         have HO_15 := n1_
                         have HO249 := n2_
                         have HO252 := n3_
                         have HB := n4_
                         clear n0_ n1_ n2_ n3_ n4_
                         (try clear hb)
                         (try clear hb2)
                         (try clear hk)
                         (try clear hi)
                         (try clear ho0)
                         refine hK.out _ _ trivial (fun hHeld => ?_)
                         clear hK K
                         refine norm_ (a' := ?_) ?_ ?_
                         rotate_left
                         ·show Act.put _ (some 111) _ = _
                          simp only [Act.put, List.setIfInBounds_toArray, List.set_cons_zero, List.set_cons_succ, i64_w, i32_w]
                          rfl
                         exact norm_ (by first | (simp only [putAll, Act.put, List.setIfInBounds_toArray, List.set_cons_zero, List.set_cons_succ]; done) | (simp only [putAll, Act.put, List.setIfInBounds_toArray, List.set_cons_zero, List.set_cons_succ]; rfl)) (hJ2_4 (v251) _ ⟨(by (with_reducible repeat (first | apply Kd.R_alloc | apply Kd.R_drewN | apply Kd.R_drew)); exact HO249.out), (by (with_reducible repeat (first | apply Kd.R_alloc | apply Kd.R_drewN | apply Kd.R_drew)); exact Kd.R_mono HO252.out (fun _ hk => ⟨hk.2, hk.1.2⟩)), (by (with_reducible repeat (first | apply Kd.R_alloc | apply Kd.R_drewN | apply Kd.R_drew)); exact Kd.R_mono HO_15.out (fun _ hk => ⟨hk.2, hk.1⟩)), (by (with_reducible repeat (first | apply Kd.R_alloc | apply Kd.R_drewN | apply Kd.R_drew)); exact Kd.R_mono HO_9.out (fun _ hk => ⟨hk.2, hk.1⟩)), (by repeat (first | (with_reducible first | exact HB.out | apply below_alloc | apply pw_below_drewN | apply below_drew1) | exact HB.out))⟩)
                       ·skip
                        rintro ⟨v251, v254⟩ w91 ⟨h0_, h1_, h2_, h3_, h4_, h5_⟩
                        have n0_ : Aside0 (Kd.R (Kd.int .u8) 5 w91 w.heap.size (fun k_ => some k_ ≠ (v254 : Value).ownBlock) v248 t247) := ⟨h0_⟩
                        have n1_ : Aside0 (Kd.R k44 44 w91 w.heap.size (fun k_ => some k_ ≠ (v243 : Value).ownBlock ∧ some k_ ≠ (.slice Ao85 t226.length co85 : Value).ownBlock) v251 t250) := ⟨h1_⟩
                        have n2_ : Aside0 (Kd.R (Kd.int .u8) 5 w91 w.heap.size (fun k_ => some k_ ≠ (v248 : Value).ownBlock) v254 t253) := ⟨h2_⟩
                        have n3_ : Aside0 (Kd.R k44 44 w91 w.heap.size (fun k_ => some k_ ≠ (v251 : Value).ownBlock ∧ some k_ ≠ (.slice Ao85 t226.length co85 : Value).ownBlock) v243 t242) := ⟨h3_⟩
                        have n4_ : Aside0 (Kd.R k44 44 w91 w.heap.size (fun k_ => some k_ ≠ (v251 : Value).ownBlock ∧ some k_ ≠ (v243 : Value).ownBlock) (.slice Ao85 t226.length co85) t226) := ⟨h4_⟩
                        have n5_ : Aside0 (Below w.heap.size w w91) := ⟨h5_⟩
                        clear HO_9
                        clear HO_15
                        clear HB
                        clear h0_ h1_ h2_ h3_ h4_ h5_
                        have HO249 := n0_
                        have HO252 := n1_
                        have HO255 := n2_
                        have HO_15 := n3_
                        have HO_9 := n4_
                        have HB := n5_
                        clear n0_ n1_ n2_ n3_ n4_ n5_
                        have hHeld := trivial
                        refine norm_ (a' := ?_) ?_ ?_
                        rotate_left
                        ·simp only [putAll, Act.put, List.setIfInBounds_toArray, List.set_cons_zero, List.set_cons_succ]
                         rfl
                        refine two_ (i := 2) (j := 6) (Ni := some 109) (Nj := some 113) #[true, true, true, true, true, true, false, false, false, false, false, false, false, false, false, false, false, false, false, false, false, false, false, false, false] #[true, true, false, true, true, true, true, false, false, false, false, false, false, false, false, false, false, false, false, false, false, false, false, false, false] rfl rfl rfl rfl (two_of HT_.out (by kernel_rfl)) (by decide) (by decide) (fun K hK => ?_) (fun K hK => ?_)
                        ·skip
                         have hcv92 := own_string (P := Tryd.prog) Tryd.underlying27 Tryd.underlying5 Tryd.underlying9 (Kd.own_of_R HO249.out)
                         refine value_ (w1 := ?_) (v := ?_) (by rfl) rfl ?_ ?_
                         rotate_left 2
                         ·go_simp
                          constructor
                          ·rfl
                          ·rfl
                         clear hcv92
                         refine hK.out _ _ trivial (fun hHeld => ?_)
                         clear hK K
                         refine norm_ (a' := ?_) ?_ ?_
                         rotate_left
                         ·show Act.put _ (some 109) _ = _
                          simp only [Act.put, List.setIfInBounds_toArray, List.set_cons_zero, List.set_cons_succ, i64_w, i32_w]
                          rfl
                         exact norm_ (by first | (simp only [putAll, Act.put, List.setIfInBounds_toArray, List.set_cons_zero, List.set_cons_succ]; done) | (simp only [putAll, Act.put, List.setIfInBounds_toArray, List.set_cons_zero, List.set_cons_succ]; rfl)) (hJ2_4_5 (v251, v254) _ ⟨(by (with_reducible repeat (first | apply Kd.R_alloc | apply Kd.R_drewN | apply Kd.R_drew)); exact HO249.out), (by (with_reducible repeat (first | apply Kd.R_alloc | apply Kd.R_drewN | apply Kd.R_drew)); exact HO252.out), (by (with_reducible repeat (first | apply Kd.R_alloc | apply Kd.R_drewN | apply Kd.R_drew)); exact HO255.out), (by (with_reducible repeat (first | apply Kd.R_alloc | apply Kd.R_drewN | apply Kd.R_drew)); exact HO_15.out), (by (with_reducible repeat (first | apply Kd.R_alloc | apply Kd.R_drewN | apply Kd.R_drew)); exact HO_9.out), (by repeat (first | (with_reducible first | exact HB.out | apply below_alloc | apply pw_below_drewN | apply below_drew1) | exact HB.out))⟩)
                        ·skip
                         have hcv92 := own_string (P := Tryd.prog) Tryd.underlying27 Tryd.underlying5 Tryd.underlying9 (Kd.own_of_R HO255.out)
                         refine value_ (w1 := ?_) (v := ?_) (by rfl) rfl ?_ ?_
                         rotate_left 2
                         ·go_simp
                          constructor
                          ·rfl
                          ·rfl
                         clear hcv92
                         refine hK.out _ _ trivial (fun hHeld => ?_)
                         clear hK K
                         refine norm_ (a' := ?_) ?_ ?_
                         rotate_left
                         ·show Act.put _ (some 113) _ = _
                          simp only [Act.put, List.setIfInBounds_toArray, List.set_cons_zero, List.set_cons_succ, i64_w, i32_w]
                          rfl
                         exact norm_ (by first | (simp only [putAll, Act.put, List.setIfInBounds_toArray, List.set_cons_zero, List.set_cons_succ]; done) | (simp only [putAll, Act.put, List.setIfInBounds_toArray, List.set_cons_zero, List.set_cons_succ]; rfl)) (hJ4_5_6 (v251, v254) _ ⟨(by (with_reducible repeat (first | apply Kd.R_alloc | apply Kd.R_drewN | apply Kd.R_drew)); exact HO249.out), (by (with_reducible repeat (first | apply Kd.R_alloc | apply Kd.R_drewN | apply Kd.R_drew)); exact HO252.out), (by (with_reducible repeat (first | apply Kd.R_alloc | apply Kd.R_drewN | apply Kd.R_drew)); exact HO255.out), (by (with_reducible repeat (first | apply Kd.R_alloc | apply Kd.R_drewN | apply Kd.R_drew)); exact HO_15.out), (by (with_reducible repeat (first | apply Kd.R_alloc | apply Kd.R_drewN | apply Kd.R_drew)); exact HO_9.out), (by repeat (first | (with_reducible first | exact HB.out | apply below_alloc | apply pw_below_drewN | apply below_drew1) | exact HB.out))⟩)
                      ·skip
                       rintro v251 w90 ⟨h0_, h1_, h2_, h3_, h4_⟩
                       have n0_ : Aside0 (Kd.R (Kd.int .u8) 5 w90 w.heap.size (fun _ => True) v248 t247) := ⟨h0_⟩
                       have n1_ : Aside0 (Kd.R k44 44 w90 w.heap.size (fun k_ => some k_ ≠ (v243 : Value).ownBlock ∧ some k_ ≠ (.slice Ao85 t226.length co85 : Value).ownBlock) v251 t250) := ⟨h1_⟩
                       have n2_ : Aside0 (Kd.R k44 44 w90 w.heap.size (fun k_ => some k_ ≠ (v251 : Value).ownBlock ∧ some k_ ≠ (.slice Ao85 t226.length co85 : Value).ownBlock) v243 t242) := ⟨h2_⟩
                       have n3_ : Aside0 (Kd.R k44 44 w90 w.heap.size (fun k_ => some k_ ≠ (v251 : Value).ownBlock ∧ some k_ ≠ (v243 : Value).ownBlock) (.slice Ao85 t226.length co85) t226) := ⟨h3_⟩
                       have n4_ : Aside0 (Below w.heap.size w w90) := ⟨h4_⟩
                       clear HO_9
                       clear HO_15
                       clear HB
                       clear h0_ h1_ h2_ h3_ h4_
                       have HO249 := n0_
                       have HO252 := n1_
                       have HO_15 := n2_
                       have HO_9 := n3_
                       have HB := n4_
                       clear n0_ n1_ n2_ n3_ n4_
                       have hHeld := trivial
                       obtain ⟨Ao91, co91, eo91⟩ := Kd.R_slice HO252.out
                       (first | subst eo91 | (injection eo91 with f1_ f2_ f3_; have f4_ := f1_.symm; have f5_ := f3_.symm; clear f1_ f2_ f3_; subst f4_; subst f5_))
                       refine norm_ (a' := ?_) ?_ ?_
                       rotate_left
                       ·simp only [putAll, Act.put, List.setIfInBounds_toArray, List.set_cons_zero, List.set_cons_succ]
                        rfl
                       refine one_ (i := 5) (N := some 112) #[true, true, true, true, true, true, false, false, false, false, false, false, false, false, false, false, false, false, false, false, false, false, false, false, false] rfl rfl (one_of HT_.out (by kernel_rfl)) (by decide) (fun K hK => ?_)
                       refine goes_ Tryd.func17 (by kernel_rfl) rfl #[.slice Ao91 t250.length co91] (by rfl) rfl rfl (by (try simp only [List.map_toArray, List.map_cons, List.map_nil]); first | done | rfl | (simp only [List.length_drop, List.length_take]; rfl)) ?_
                       with_reducible refine (tocsinref8_PutJobs.calls _ _ t250 t253 _ (tab_below HTb.out (by repeat (first | (with_reducible first | exact HB.out | apply below_alloc | apply pw_below_drewN | apply below_drew1) | exact HB.out))) ?side1 ?side2 A78.out).mono ?_
                       (case side1 => repeat (first | exact (Kd.R_reads' HO252.out).2.2 | (with_reducible refine Kd.C_alloc ?_ _) | (with_reducible refine Kd.C_drewN ?_ _) | (with_reducible refine Kd.C_drew ?_)))
                       (case side2 => exact (Kd.R_reads' HO252.out).2.1)
                       rintro e w92 ⟨v254, rfl, ho0, hb⟩
                       refine ⟨_, rfl, ?_⟩
                       have n0_ := Aside0.mk (Kd.R_below (by (with_reducible repeat (first | apply Kd.R_alloc | apply Kd.R_drewN | apply Kd.R_drew)); exact HO_9.out) hb)
                       have n1_ := Aside0.mk (Kd.R_below (by (with_reducible repeat (first | apply Kd.R_alloc | apply Kd.R_drewN | apply Kd.R_drew)); exact HO_15.out) hb)
                       have n2_ := Aside0.mk (Kd.R_elder' (by (with_reducible repeat (first | apply Kd.R_alloc | apply Kd.R_drewN | apply Kd.R_drew)); exact HO249.out) (Kd.R_base ho0) hb)
                       have n3_ := Aside0.mk (Kd.R_below (by (with_reducible repeat (first | apply Kd.R_alloc | apply Kd.R_drewN | apply Kd.R_drew)); exact HO252.out) hb)
                       have n4_ := Aside0.mk (Kd.R_lower (Kd.R_new' ho0 (Kd.R_lt (by (with_reducible repeat (first | apply Kd.R_alloc | apply Kd.R_drewN | apply Kd.R_drew)); exact HO249.out))) (below_size (by repeat (first | (with_reducible first | exact HB.out | apply below_alloc | apply pw_below_drewN | apply below_drew1) | exact HB.out))))
                       have n5_ := Aside0.mk (below_step (by repeat (first | (with_reducible first | exact HB.out | apply below_alloc | apply pw_below_drewN | apply below_drew1) | exact HB.out)) hb)
                       clear HO_9
                       clear HO_15
                       clear HO249
                       clear HO252
                       clear HB
                       have HO_9 := n0_
                       have HO_15 := n1_
                       have HO249 := n2_
                       have HO252 := n3_
                       have HO255 := n4_
                       have HB := n5_
                       clear n0_ n1_ n2_ n3_ n4_ n5_
                       (try clear hb)
                       (try clear hb2)
                       (try clear hk)
                       (try clear hi)
                       (try clear ho0)
                       refine hK.out _ _ trivial (fun hHeld => ?_)
                       clear hK K
                       refine norm_ (a' := ?_) ?_ ?_
                       rotate_left
                       ·show Act.put _ (some 112) _ = _
                        simp only [Act.put, List.setIfInBounds_toArray, List.set_cons_zero, List.set_cons_succ, i64_w, i32_w]
                        rfl
                       exact norm_ (by first | (simp only [putAll, Act.put, List.setIfInBounds_toArray, List.set_cons_zero, List.set_cons_succ]; done) | (simp only [putAll, Act.put, List.setIfInBounds_toArray, List.set_cons_zero, List.set_cons_succ]; rfl)) (hJ2_4_5 (.slice Ao91 t250.length co91, v254) _ ⟨(by (with_reducible repeat (first | apply Kd.R_alloc | apply Kd.R_drewN | apply Kd.R_drew)); exact Kd.R_mono HO249.out (fun _ hk => hk.2)), (by (with_reducible repeat (first | apply Kd.R_alloc | apply Kd.R_drewN | apply Kd.R_drew)); exact HO252.out), (by (with_reducible repeat (first | apply Kd.R_alloc | apply Kd.R_drewN | apply Kd.R_drew)); exact Kd.R_mono HO255.out (fun _ hk => hk.2)), (by (with_reducible repeat (first | apply Kd.R_alloc | apply Kd.R_drewN | apply Kd.R_drew)); exact HO_15.out), (by (with_reducible repeat (first | apply Kd.R_alloc | apply Kd.R_drewN | apply Kd.R_drew)); exact HO_9.out), (by repeat (first | (with_reducible first | exact HB.out | apply below_alloc | apply pw_below_drewN | apply below_drew1) | exact HB.out))⟩)
                     ·skip
                      rintro ⟨v251, v254⟩ w92 ⟨h0_, h1_, h2_, h3_, h4_, h5_⟩
                      have n0_ : Aside0 (Kd.R (Kd.int .u8) 5 w92 w.heap.size (fun k_ => some k_ ≠ (v254 : Value).ownBlock) v248 t247) := ⟨h0_⟩
                      have n1_ : Aside0 (Kd.R k44 44 w92 w.heap.size (fun k_ => some k_ ≠ (v243 : Value).ownBlock ∧ some k_ ≠ (.slice Ao85 t226.length co85 : Value).ownBlock) v251 t250) := ⟨h1_⟩
                      have n2_ : Aside0 (Kd.R (Kd.int .u8) 5 w92 w.heap.size (fun k_ => some k_ ≠ (v248 : Value).ownBlock) v254 t253) := ⟨h2_⟩
                      have n3_ : Aside0 (Kd.R k44 44 w92 w.heap.size (fun k_ => some k_ ≠ (v251 : Value).ownBlock ∧ some k_ ≠ (.slice Ao85 t226.length co85 : Value).ownBlock) v243 t242) := ⟨h3_⟩
                      have n4_ : Aside0 (Kd.R k44 44 w92 w.heap.size (fun k_ => some k_ ≠ (v251 : Value).ownBlock ∧ some k_ ≠ (v243 : Value).ownBlock) (.slice Ao85 t226.length co85) t226) := ⟨h4_⟩
                      have n5_ : Aside0 (Below w.heap.size w w92) := ⟨h5_⟩
                      clear HO_9
                      clear HO_15
                      clear HB
                      clear h0_ h1_ h2_ h3_ h4_ h5_
                      have HO249 := n0_
                      have HO252 := n1_
                      have HO255 := n2_
                      have HO_15 := n3_
                      have HO_9 := n4_
                      have HB := n5_
                      clear n0_ n1_ n2_ n3_ n4_ n5_
                      have hHeld := trivial
                      refine norm_ (a' := ?_) ?_ ?_
                      rotate_left
                      ·simp only [putAll, Act.put, List.setIfInBounds_toArray, List.set_cons_zero, List.set_cons_succ]
                       rfl
                      refine one_ (i := 2) (N := some 109) #[true, true, true, true, true, true, true, false, false, false, false, false, false, false, false, false, false, false, false, false, false, false, false, false, false] rfl rfl (one_of HT_.out (by kernel_rfl)) (by decide) (fun K hK => ?_)
                      have hcv93 := own_string (P := Tryd.prog) Tryd.underlying27 Tryd.underlying5 Tryd.underlying9 (Kd.own_of_R HO249.out)
                      refine value_ (w1 := ?_) (v := ?_) (by rfl) rfl ?_ ?_
                      rotate_left 2
                      ·go_simp
                       constructor
                       ·rfl
                       ·rfl
                      clear hcv93
                      refine hK.out _ _ trivial (fun hHeld => ?_)
                      clear hK K
                      refine norm_ (a' := ?_) ?_ ?_
                      rotate_left
                      ·show Act.put _ (some 109) _ = _
                       simp only [Act.put, List.setIfInBounds_toArray, List.set_cons_zero, List.set_cons_succ, i64_w, i32_w]
                       rfl
                      refine pure_ (i := 7) (N := some 114) (v := ?_) (a' := ?_) #[true, true, true, true, true, true, true, true, false, false, false, false, false, false, false, false, false, false, false, false, false, false, false, false, false] rfl rfl (any_of HT_.out (by kernel_rfl)) (fun _ _ _ h => h) (Or.inl ⟨by rfl, ?_⟩) ?_ ?_
                      rotate_left
                      ·intro w'
                       go_simp
                       with_reducible rfl
                      rotate_left
                      ·simp only [Act.put, List.setIfInBounds_toArray, List.set_cons_zero, List.set_cons_succ, i64_w, i32_w]
                       rfl
                      refine pure_ (i := 8) (N := some 115) (v := ?_) (a' := ?_) #[true, true, true, true, true, true, true, true, true, false, false, false, false, false, false, false, false, false, false, false, false, false, false, false, false] rfl rfl (any_of HT_.out (by kernel_rfl)) (fun _ _ _ h => h) (Or.inl ⟨by rfl, ?_⟩) ?_ ?_
                      rotate_left
                      ·intro w'
                       go_simp
                       with_reducible rfl
                      rotate_left
                      ·simp only [Act.put, List.setIfInBounds_toArray, List.set_cons_zero, List.set_cons_succ, i64_w, i32_w]
                       rfl
                      refine pure_ (i := 9) (N := some 116) (v := ?_) (a' := ?_) #[true, true, true, true, true, true, true, true, true, true, false, false, false, false, false, false, false, false, false, false, false, false, false, false, false] rfl rfl (any_of HT_.out (by kernel_rfl)) (fun _ _ _ h => h) (Or.inl ⟨by rfl, ?_⟩) ?_ ?_
                      rotate_left
                      ·intro w'
                       go_simp
                       with_reducible rfl
                      rotate_left
                      ·simp only [Act.put, List.setIfInBounds_toArray, List.set_cons_zero, List.set_cons_succ, i64_w, i32_w]
                       rfl
                      refine pure_ (i := 12) (N := some 119) (v := ?_) (a' := ?_) #[true, true, true, true, true, true, true, true, true, true, false, false, true, false, false, false, false, false, false, false, false, false, false, false, false] rfl rfl (any_of HT_.out (by kernel_rfl)) (fun _ _ _ h => h) (Or.inl ⟨by rfl, ?_⟩) ?_ ?_
                      rotate_left
                      ·intro w'
                       go_simp
                       with_reducible rfl
                      rotate_left
                      ·simp only [Act.put, List.setIfInBounds_toArray, List.set_cons_zero, List.set_cons_succ, i64_w, i32_w]
                       rfl
                      exact norm_ (by first | (simp only [putAll, Act.put, List.setIfInBounds_toArray, List.set_cons_zero, List.set_cons_succ]; done) | (simp only [putAll, Act.put, List.setIfInBounds_toArray, List.set_cons_zero, List.set_cons_succ]; rfl)) (hJ2_4_5_6 (v251, v254) _ ⟨(by (with_reducible repeat (first | apply Kd.R_alloc | apply Kd.R_drewN | apply Kd.R_drew)); exact HO249.out), (by (with_reducible repeat (first | apply Kd.R_alloc | apply Kd.R_drewN | apply Kd.R_drew)); exact HO252.out), (by (with_reducible repeat (first | apply Kd.R_alloc | apply Kd.R_drewN | apply Kd.R_drew)); exact HO255.out), (by (with_reducible repeat (first | apply Kd.R_alloc | apply Kd.R_drewN | apply Kd.R_drew)); exact HO_15.out), (by (with_reducible repeat (first | apply Kd.R_alloc | apply Kd.R_drewN | apply Kd.R_drew)); exact HO_9.out), (by repeat (first | (with_reducible first | exact HB.out | apply below_alloc | apply pw_below_drewN | apply below_drew1) | exact HB.out))⟩)
                    ·skip
                     rintro ⟨v251, v254⟩ w92 ⟨h0_, h1_, h2_, h3_, h4_, h5_⟩
                     have n0_ : Aside0 (Kd.R (Kd.int .u8) 5 w92 w.heap.size (fun k_ => some k_ ≠ (v254 : Value).ownBlock) v248 t247) := ⟨h0_⟩
                     have n1_ : Aside0 (Kd.R k44 44 w92 w.heap.size (fun k_ => some k_ ≠ (v243 : Value).ownBlock ∧ some k_ ≠ (.slice Ao85 t226.length co85 : Value).ownBlock) v251 t250) := ⟨h1_⟩
                     have n2_ : Aside0 (Kd.R (Kd.int .u8) 5 w92 w.heap.size (fun k_ => some k_ ≠ (v248 : Value).ownBlock) v254 t253) := ⟨h2_⟩
                     have n3_ : Aside0 (Kd.R k44 44 w92 w.heap.size (fun k_ => some k_ ≠ (v251 : Value).ownBlock ∧ some k_ ≠ (.slice Ao85 t226.length co85 : Value).ownBlock) v243 t242) := ⟨h3_⟩
                     have n4_ : Aside0 (Kd.R k44 44 w92 w.heap.size (fun k_ => some k_ ≠ (v251 : Value).ownBlock ∧ some k_ ≠ (v243 : Value).ownBlock) (.slice Ao85 t226.length co85) t226) := ⟨h4_⟩
                     have n5_ : Aside0 (Below w.heap.size w w92) := ⟨h5_⟩
                     clear HO_9
                     clear HO_15
                     clear HB
                     clear h0_ h1_ h2_ h3_ h4_ h5_
                     have HO249 := n0_
                     have HO252 := n1_
                     have HO255 := n2_
                     have HO_15 := n3_
                     have HO_9 := n4_
                     have HB := n5_
                     clear n0_ n1_ n2_ n3_ n4_ n5_
                     have hHeld := trivial
                     refine norm_ (a' := ?_) ?_ ?_
                     rotate_left
                     ·simp only [putAll, Act.put, List.setIfInBounds_toArray, List.set_cons_zero, List.set_cons_succ]
                      rfl
                     refine one_ (i := 6) (N := some 113) #[true, true, true, true, true, true, true, false, false, false, false, false, false, false, false, false, false, false, false, false, false, false, false, false, false] rfl rfl (one_of HT_.out (by kernel_rfl)) (by decide) (fun K hK => ?_)
                     have hcv93 := own_string (P := Tryd.prog) Tryd.underlying27 Tryd.underlying5 Tryd.underlying9 (Kd.own_of_R HO255.out)
                     refine value_ (w1 := ?_) (v := ?_) (by rfl) rfl ?_ ?_
                     rotate_left 2
                     ·go_simp
                      constructor
                      ·rfl
                      ·rfl
                     clear hcv93
                     refine hK.out _ _ trivial (fun hHeld => ?_)
                     clear hK K
                     refine norm_ (a' := ?_) ?_ ?_
                     rotate_left
                     ·show Act.put _ (some 113) _ = _
                      simp only [Act.put, List.setIfInBounds_toArray, List.set_cons_zero, List.set_cons_succ, i64_w, i32_w]
                      rfl
                     refine pure_ (i := 7) (N := some 114) (v := ?_) (a' := ?_) #[true, true, true, true, true, true, true, true, false, false, false, false, false, false, false, false, false, false, false, false, false, false, false, false, false] rfl rfl (any_of HT_.out (by kernel_rfl)) (fun _ _ _ h => h) (Or.inl ⟨by rfl, ?_⟩) ?_ ?_
                     rotate_left
                     ·intro w'
                      go_simp
                      with_reducible rfl
                     rotate_left
                     ·simp only [Act.put, List.setIfInBounds_toArray, List.set_cons_zero, List.set_cons_succ, i64_w, i32_w]
                      rfl
                     refine pure_ (i := 8) (N := some 115) (v := ?_) (a' := ?_) #[true, true, true, true, true, true, true, true, true, false, false, false, false, false, false, false, false, false, false, false, false, false, false, false, false] rfl rfl (any_of HT_.out (by kernel_rfl)) (fun _ _ _ h => h) (Or.inl ⟨by rfl, ?_⟩) ?_ ?_
                     rotate_left
                     ·intro w'
                      go_simp
                      with_reducible rfl
                     rotate_left
                     ·simp only [Act.put, List.setIfInBounds_toArray, List.set_cons_zero, List.set_cons_succ, i64_w, i32_w]
                      rfl
                     refine pure_ (i := 9) (N := some 116) (v := ?_) (a' := ?_) #[true, true, true, true, true, true, true, true, true, true, false, false, false, false, false, false, false, false, false, false, false, false, false, false, false] rfl rfl (any_of HT_.out (by kernel_rfl)) (fun _ _ _ h => h) (Or.inl ⟨by rfl, ?_⟩) ?_ ?_
                     rotate_left
                     ·intro w'
                      go_simp
                      with_reducible rfl
                     rotate_left
                     ·simp only [Act.put, List.setIfInBounds_toArray, List.set_cons_zero, List.set_cons_succ, i64_w, i32_w]
                      rfl
                     refine pure_ (i := 12) (N := some 119) (v := ?_) (a' := ?_) #[true, true, true, true, true, true, true, true, true, true, false, false, true, false, false, false, false, false, false, false, false, false, false, false, false] rfl rfl (any_of HT_.out (by kernel_rfl)) (fun _ _ _ h => h) (Or.inl ⟨by rfl, ?_⟩) ?_ ?_
                     rotate_left
                     ·intro w'
                      go_simp
                      with_reducible rfl
                     rotate_left
                     ·simp only [Act.put, List.setIfInBounds_toArray, List.set_cons_zero, List.set_cons_succ, i64_w, i32_w]
                      rfl
                     exact norm_ (by first | (simp only [putAll, Act.put, List.setIfInBounds_toArray, List.set_cons_zero, List.set_cons_succ]; done) | (simp only [putAll, Act.put, List.setIfInBounds_toArray, List.set_cons_zero, List.set_cons_succ]; rfl)) (hJ2_4_5_6 (v251, v254) _ ⟨(by (with_reducible repeat (first | apply Kd.R_alloc | apply Kd.R_drewN | apply Kd.R_drew)); exact HO249.out), (by (with_reducible repeat (first | apply Kd.R_alloc | apply Kd.R_drewN | apply Kd.R_drew)); exact HO252.out), (by (with_reducible repeat (first | apply Kd.R_alloc | apply Kd.R_drewN | apply Kd.R_drew)); exact HO255.out), (by (with_reducible repeat (first | apply Kd.R_alloc | apply Kd.R_drewN | apply Kd.R_drew)); exact HO_15.out), (by (with_reducible repeat (first | apply Kd.R_alloc | apply Kd.R_drewN | apply Kd.R_drew)); exact HO_9.out), (by repeat (first | (with_reducible first | exact HB.out | apply below_alloc | apply pw_below_drewN | apply below_drew1) | exact HB.out))⟩)
                   ·skip
                    rintro ⟨v251, v254⟩ w93 ⟨h0_, h1_, h2_, h3_, h4_, h5_⟩
                    have n0_ : Aside0 (Kd.R (Kd.int .u8) 5 w93 w.heap.size (fun k_ => some k_ ≠ (v254 : Value).ownBlock) v248 t247) := ⟨h0_⟩
                    have n1_ : Aside0 (Kd.R k44 44 w93 w.heap.size (fun k_ => some k_ ≠ (v243 : Value).ownBlock ∧ some k_ ≠ (.slice Ao85 t226.length co85 : Value).ownBlock) v251 t250) := ⟨h1_⟩
                    have n2_ : Aside0 (Kd.R (Kd.int .u8) 5 w93 w.heap.size (fun k_ => some k_ ≠ (v248 : Value).ownBlock) v254 t253) := ⟨h2_⟩
                    have n3_ : Aside0 (Kd.R k44 44 w93 w.heap.size (fun k_ => some k_ ≠ (v251 : Value).ownBlock ∧ some k_ ≠ (.slice Ao85 t226.length co85 : Value).ownBlock) v243 t242) := ⟨h3_⟩
                    have n4_ : Aside0 (Kd.R k44 44 w93 w.heap.size (fun k_ => some k_ ≠ (v251 : Value).ownBlock ∧ some k_ ≠ (v243 : Value).ownBlock) (.slice Ao85 t226.length co85) t226) := ⟨h4_⟩
                    have n5_ : Aside0 (Below w.heap.size w w93) := ⟨h5_⟩
                    clear HO_9
                    clear HO_15
                    clear HB
                    clear h0_ h1_ h2_ h3_ h4_ h5_
                    have HO249 := n0_
                    have HO252 := n1_
                    have HO255 := n2_
                    have HO_15 := n3_
                    have HO_9 := n4_
                    have HB := n5_
                    clear n0_ n1_ n2_ n3_ n4_ n5_
                    have hHeld := trivial
                    refine norm_ (a' := ?_) ?_ ?_
                    rotate_left
                    ·simp only [putAll, Act.put, List.setIfInBounds_toArray, List.set_cons_zero, List.set_cons_succ]
                     rfl
                    refine one_ (i := 10) (N := some 117) #[true, true, true, true, true, true, true, true, true, true, true, false, true, false, false, false, false, false, false, false, false, false, false, false, false] rfl rfl (one_of HT_.out (by kernel_rfl)) (by decide) (fun K hK => ?_)
                    refine goes_ Tryd.func10 (by kernel_rfl) rfl #[.slice A1 l1.length c1] (by rfl) rfl rfl (by (try simp only [List.map_toArray, List.map_cons, List.map_nil]); first | done | rfl | (simp only [List.length_drop, List.length_take]; rfl)) ?_
                    with_reducible refine (codec_PutTrace.calls k3 _ _ l1 t256 _ ?side1 ?side2 A80.out).mono ?_
                    (case side1 => repeat (first | exact (Kd.C_below HR1.out HB.out) | (with_reducible refine Kd.C_alloc ?_ _) | (with_reducible refine Kd.C_drewN ?_ _) | (with_reducible refine Kd.C_drew ?_)))
                    (case side2 => exact HC1.out)
                    rintro e w94 ⟨v257, rfl, ho0, hb⟩
                    refine ⟨_, rfl, ?_⟩
                    have n0_ := Aside0.mk (Kd.R_below (by (with_reducible repeat (first | apply Kd.R_alloc | apply Kd.R_drewN | apply Kd.R_drew)); exact HO_9.out) hb)
                    have n1_ := Aside0.mk (Kd.R_below (by (with_reducible repeat (first | apply Kd.R_alloc | apply Kd.R_drewN | apply Kd.R_drew)); exact HO_15.out) hb)
                    have n2_ := Aside0.mk (Kd.R_elder' (by (with_reducible repeat (first | apply Kd.R_alloc | apply Kd.R_drewN | apply Kd.R_drew)); exact HO249.out) (Kd.R_base ho0) hb)
                    have n3_ := Aside0.mk (Kd.R_below (by (with_reducible repeat (first | apply Kd.R_alloc | apply Kd.R_drewN | apply Kd.R_drew)); exact HO252.out) hb)
                    have n4_ := Aside0.mk (Kd.R_elder' (by (with_reducible repeat (first | apply Kd.R_alloc | apply Kd.R_drewN | apply Kd.R_drew)); exact HO255.out) (Kd.R_base ho0) hb)
                    have n5_ := Aside0.mk (Kd.R_lower (Kd.R_new' (Kd.R_new' ho0 (Kd.R_lt (by (with_reducible repeat (first | apply Kd.R_alloc | apply Kd.R_drewN | apply Kd.R_drew)); exact HO249.out))) (Kd.R_lt (by (with_reducible repeat (first | apply Kd.R_alloc | apply Kd.R_drewN | apply Kd.R_drew)); exact HO255.out))) (below_size (by repeat (first | (with_reducible first | exact HB.out | apply below_alloc | apply pw_below_drewN | apply below_drew1) | exact HB.out))))
                    have n6_ := Aside0.mk (below_step (by repeat (first | (with_reducible first | exact HB.out | apply below_alloc | apply pw_below_drewN | apply below_drew1) | exact HB.out)) hb)
                    clear HO_9
                    clear HO_15
                    clear HO249
                    clear HO252
                    clear HO255
                    clear HB
                    have HO_9 := n0_
                    have HO_15 := n1_
                    have HO249 := n2_
                    have HO252 := n3_
                    have HO255 := n4_
                    have HO258 := n5_
                    have HB := n6_
                    clear n0_ n1_ n2_ n3_ n4_ n5_ n6_
                    (try clear hb)
                    (try clear hb2)
                    (try clear hk)
                    (try clear hi)
                    (try clear ho0)
                    refine hK.out _ _ trivial (fun hHeld => ?_)
                    clear hK K
                    refine norm_ (a' := ?_) ?_ ?_
                    rotate_left
                    ·show Act.put _ (some 117) _ = _
                     simp only [Act.put, List.setIfInBounds_toArray, List.set_cons_zero, List.set_cons_succ, i64_w, i32_w]
                     rfl
                    exact norm_ (by first | (simp only [putAll, Act.put, List.setIfInBounds_toArray, List.set_cons_zero, List.set_cons_succ]; done) | (simp only [putAll, Act.put, List.setIfInBounds_toArray, List.set_cons_zero, List.set_cons_succ]; rfl)) (hJ2_4_5_6_10 (v251, v254, v257) _ ⟨(by (with_reducible repeat (first | apply Kd.R_alloc | apply Kd.R_drewN | apply Kd.R_drew)); exact HO249.out), (by (with_reducible repeat (first | apply Kd.R_alloc | apply Kd.R_drewN | apply Kd.R_drew)); exact HO252.out), (by (with_reducible repeat (first | apply Kd.R_alloc | apply Kd.R_drewN | apply Kd.R_drew)); exact HO255.out), (by (with_reducible repeat (first | apply Kd.R_alloc | apply Kd.R_drewN | apply Kd.R_drew)); exact Kd.R_mono HO258.out (fun _ hk => ⟨hk.1.2, hk.2⟩)), (by (with_reducible repeat (first | apply Kd.R_alloc | apply Kd.R_drewN | apply Kd.R_drew)); exact HO_15.out), (by (with_reducible repeat (first | apply Kd.R_alloc | apply Kd.R_drewN | apply Kd.R_drew)); exact HO_9.out), (by repeat (first | (with_reducible first | exact HB.out | apply below_alloc | apply pw_below_drewN | apply below_drew1) | exact HB.out))⟩)
                  ·skip
                   rintro ⟨v251, v254, v257⟩ w94 ⟨h0_, h1_, h2_, h3_, h4_, h5_, h6_⟩
                   have n0_ : Aside0 (Kd.R (Kd.int .u8) 5 w94 w.heap.size (fun k_ => some k_ ≠ (v254 : Value).ownBlock ∧ some k_ ≠ (v257 : Value).ownBlock) v248 t247) := ⟨h0_⟩
                   have n1_ : Aside0 (Kd.R k44 44 w94 w.heap.size (fun k_ => some k_ ≠ (v243 : Value).ownBlock ∧ some k_ ≠ (.slice Ao85 t226.length co85 : Value).ownBlock) v251 t250) := ⟨h1_⟩
                   have n2_ : Aside0 (Kd.R (Kd.int .u8) 5 w94 w.heap.size (fun k_ => some k_ ≠ (v248 : Value).ownBlock ∧ some k_ ≠ (v257 : Value).ownBlock) v254 t253) := ⟨h2_⟩
                   have n3_ : Aside0 (Kd.R (Kd.int .u8) 5 w94 w.heap.size (fun k_ => some k_ ≠ (v248 : Value).ownBlock ∧ some k_ ≠ (v254 : Value).ownBlock) v257 t256) := ⟨h3_⟩
                   have n4_ : Aside0 (Kd.R k44 44 w94 w.heap.size (fun k_ => some k_ ≠ (v251 : Value).ownBlock ∧ some k_ ≠ (.slice Ao85 t226.length co85 : Value).ownBlock) v243 t242) := ⟨h4_⟩
                   have n5_ : Aside0 (Kd.R k44 44 w94 w.heap.size (fun k_ => some k_ ≠ (v251 : Value).ownBlock ∧ some k_ ≠ (v243 : Value).ownBlock) (.slice Ao85 t226.length co85) t226) := ⟨h5_⟩
                   have n6_ : Aside0 (Below w.heap.size w w94) := ⟨h6_⟩
                   clear HO_9
                   clear HO_15
                   clear HB
                   clear h0_ h1_ h2_ h3_ h4_ h5_ h6_
                   have HO249 := n0_
                   have HO252 := n1_
                   have HO255 := n2_
                   have HO258 := n3_
                   have HO_15 := n4_
                   have HO_9 := n5_
                   have HB := n6_
                   clear n0_ n1_ n2_ n3_ n4_ n5_ n6_
                   have hHeld := trivial
                   refine norm_ (a' := ?_) ?_ ?_
                   rotate_left
                   ·simp only [putAll, Act.put, List.setIfInBounds_toArray, List.set_cons_zero, List.set_cons_succ]
                    rfl
                   refine two_ (i := 11) (j := 13) (Ni := some 118) (Nj := some 120) #[true, true, true, true, true, true, true, true, true, true, true, true, true, false, false, false, false, false, false, false, false, false, false, false, false] #[true, true, true, true, true, true, true, true, true, true, true, false, true, true, false, false, false, false, false, false, false, false, false, false, false] rfl rfl rfl rfl (two_of HT_.out (by kernel_rfl)) (by decide) (by decide) (fun K hK => ?_) (fun K hK => ?_)
                   ·skip
                    have hcv95 := own_string (P := Tryd.prog) Tryd.underlying27 Tryd.underlying5 Tryd.underlying9 (Kd.own_of_R HO258.out)
                    refine value_ (w1 := ?_) (v := ?_) (by rfl) rfl ?_ ?_
                    rotate_left 2
                    ·go_simp
                     constructor
                     ·rfl
                     ·rfl
                    clear hcv95
                    refine hK.out _ _ trivial (fun hHeld => ?_)
                    clear hK K
                    refine norm_ (a' := ?_) ?_ ?_
                    rotate_left
                    ·show Act.put _ (some 118) _ = _
                     simp only [Act.put, List.setIfInBounds_toArray, List.set_cons_zero, List.set_cons_succ, i64_w, i32_w]
                     rfl
                    exact norm_ (by first | (simp only [putAll, Act.put, List.setIfInBounds_toArray, List.set_cons_zero, List.set_cons_succ]; done) | (simp only [putAll, Act.put, List.setIfInBounds_toArray, List.set_cons_zero, List.set_cons_succ]; rfl)) (hJ2_4_5_6_10_11 (v251, v254, v257) _ ⟨(by (with_reducible repeat (first | apply Kd.R_alloc | apply Kd.R_drewN | apply Kd.R_drew)); exact HO249.out), (by (with_reducible repeat (first | apply Kd.R_alloc | apply Kd.R_drewN | apply Kd.R_drew)); exact HO252.out), (by (with_reducible repeat (first | apply Kd.R_alloc | apply Kd.R_drewN | apply Kd.R_drew)); exact HO255.out), (by (with_reducible repeat (first | apply Kd.R_alloc | apply Kd.R_drewN | apply Kd.R_drew)); exact HO258.out), (by (with_reducible repeat (first | apply Kd.R_alloc | apply Kd.R_drewN | apply Kd.R_drew)); exact HO_15.out), (by (with_reducible repeat (first | apply Kd.R_alloc | apply Kd.R_drewN | apply Kd.R_drew)); exact HO_9.out), (by repeat (first | (with_reducible first | exact HB.out | apply below_alloc | apply pw_below_drewN | apply below_drew1) | exact HB.out))⟩)
                   ·skip
                    refine goes_ Tryd.func18 (by kernel_rfl) rfl #[.slice A1 l1.length c1] (by rfl) rfl rfl (by (try simp only [List.map_toArray, List.map_cons, List.map_nil]); first | done | rfl | (simp only [List.length_drop, List.length_take]; rfl)) ?_
                    with_reducible refine (tocsinref8_PutTrace.calls k3 _ _ l1 t259 _ ?side1 ?side2 A81.out).mono ?_
                    (case side1 => repeat (first | exact (Kd.C_below HR1.out HB.out) | (with_reducible refine Kd.C_alloc ?_ _) | (with_reducible refine Kd.C_drewN ?_ _) | (with_reducible refine Kd.C_drew ?_)))
                    (case side2 => exact HC1.out)
                    rintro e w95 ⟨v260, rfl, ho0, hb⟩
                    refine ⟨_, rfl, ?_⟩
                    have n0_ := Aside0.mk (Kd.R_below (by (with_reducible repeat (first | apply Kd.R_alloc | apply Kd.R_drewN | apply Kd.R_drew)); exact HO_9.out) hb)
                    have n1_ := Aside0.mk (Kd.R_below (by (with_reducible repeat (first | apply Kd.R_alloc | apply Kd.R_drewN | apply Kd.R_drew)); exact HO_15.out) hb)
                    have n2_ := Aside0.mk (Kd.R_elder' (by (with_reducible repeat (first | apply Kd.R_alloc | apply Kd.R_drewN | apply Kd.R_drew)); exact HO249.out) (Kd.R_base ho0) hb)
                    have n3_ := Aside0.mk (Kd.R_below (by (with_reducible repeat (first | apply Kd.R_alloc | apply Kd.R_drewN | apply Kd.R_drew)); exact HO252.out) hb)
                    have n4_ := Aside0.mk (Kd.R_elder' (by (with_reducible repeat (first | apply Kd.R_alloc | apply Kd.R_drewN | apply Kd.R_drew)); exact HO255.out) (Kd.R_base ho0) hb)
                    have n5_ := Aside0.mk (Kd.R_elder' (by (with_reducible repeat (first | apply Kd.R_alloc | apply Kd.R_drewN | apply Kd.R_drew)); exact HO258.out) (Kd.R_base ho0) hb)
                    have n6_ := Aside0.mk (Kd.R_lower (Kd.R_new' (Kd.R_new' (Kd.R_new' ho0 (Kd.R_lt (by (with_reducible repeat (first | apply Kd.R_alloc | apply Kd.R_drewN | apply Kd.R_drew)); exact HO249.out))) (Kd.R_lt (by (with_reducible repeat (first | apply Kd.R_alloc | apply Kd.R_drewN | apply Kd.R_drew)); exact HO255.out))) (Kd.R_lt (by (with_reducible repeat (first | apply Kd.R_alloc | apply Kd.R_drewN | apply Kd.R_drew)); exact HO258.out))) (below_size (by repeat (first | (with_reducible first | exact HB.out | apply below_alloc | apply pw_below_drewN | apply below_drew1) | exact HB.out))))
                    have n7_ := Aside0.mk (below_step (by repeat (first | (with_reducible first | exact HB.out | apply below_alloc | apply pw_below_drewN | apply below_drew1) | exact HB.out)) hb)
                    clear HO_9
                    clear HO_15
                    clear HO249
                    clear HO252
                    clear HO255
                    clear HO258
                    clear HB
                    have HO_9 := n0_
                    have HO_15 := n1_
                    have HO249 := n2_
                    have HO252 := n3_
                    have HO255 := n4_
                    have HO258 := n5_
                    have HO261 := n6_
                    have HB := n7_
                    clear n0_ n1_ n2_ n3_ n4_ n5_ n6_ n7_
                    (try clear hb)
                    (try clear hb2)
                    (try clear hk)
                    (try clear hi)
                    (try clear ho0)
                    refine hK.out _ _ trivial (fun hHeld => ?_)
                    clear hK K
                    refine norm_ (a' := ?_) ?_ ?_
                    rotate_left
                    ·show Act.put _ (some 120) _ = _
                     simp only [Act.put, List.setIfInBounds_toArray, List.set_cons_zero, List.set_cons_succ, i64_w, i32_w]
                     rfl
                    exact norm_ (by first | (simp only [putAll, Act.put, List.setIfInBounds_toArray, List.set_cons_zero, List.set_cons_succ]; done) | (simp only [putAll, Act.put, List.setIfInBounds_toArray, List.set_cons_zero, List.set_cons_succ]; rfl)) (hJ2_4_5_6_10_13 (v251, v254, v257, v260) _ ⟨(by (with_reducible repeat (first | apply Kd.R_alloc | apply Kd.R_drewN | apply Kd.R_drew)); exact Kd.R_mono HO249.out (fun _ hk => ⟨hk.1.1, ⟨hk.1.2, hk.2⟩⟩)), (by (with_reducible repeat (first | apply Kd.R_alloc | apply Kd.R_drewN | apply Kd.R_drew)); exact HO252.out), (by (with_reducible repeat (first | apply Kd.R_alloc | apply Kd.R_drewN | apply Kd.R_drew)); exact Kd.R_mono HO255.out (fun _ hk => ⟨hk.1.1, ⟨hk.1.2, hk.2⟩⟩)), (by (with_reducible repeat (first | apply Kd.R_alloc | apply Kd.R_drewN | apply Kd.R_drew)); exact Kd.R_mono HO258.out (fun _ hk => ⟨hk.1.1, ⟨hk.1.2, hk.2⟩⟩)), (by (with_reducible repeat (first | apply Kd.R_alloc | apply Kd.R_drewN | apply Kd.R_drew)); exact Kd.R_mono HO261.out (fun _ hk => ⟨hk.1.1.2, ⟨hk.1.2, hk.2⟩⟩)), (by (with_reducible repeat (first | apply Kd.R_alloc | apply Kd.R_drewN | apply Kd.R_drew)); exact HO_15.out), (by (with_reducible repeat (first | apply Kd.R_alloc | apply Kd.R_drewN | apply Kd.R_drew)); exact HO_9.out), (by repeat (first | (with_reducible first | exact HB.out | apply below_alloc | apply pw_below_drewN | apply below_drew1) | exact HB.out))⟩)
                 ·skip
                  rintro ⟨v251, v254, v257, v260⟩ w95 ⟨h0_, h1_, h2_, h3_, h4_, h5_, h6_, h7_⟩
                  have n0_ : Aside0 (Kd.R (Kd.int .u8) 5 w95 w.heap.size (fun k_ => some k_ ≠ (v254 : Value).ownBlock ∧ some k_ ≠ (v257 : Value).ownBlock ∧ some k_ ≠ (v260 : Value).ownBlock) v248 t247) := ⟨h0_⟩
                  have n1_ : Aside0 (Kd.R k44 44 w95 w.heap.size (fun k_ => some k_ ≠ (v243 : Value).ownBlock ∧ some k_ ≠ (.slice Ao85 t226.length co85 : Value).ownBlock) v251 t250) := ⟨h1_⟩
                  have n2_ : Aside0 (Kd.R (Kd.int .u8) 5 w95 w.heap.size (fun k_ => some k_ ≠ (v248 : Value).ownBlock ∧ some k_ ≠ (v257 : Value).ownBlock ∧ some k_ ≠ (v260 : Value).ownBlock) v254 t253) := ⟨h2_⟩
                  have n3_ : Aside0 (Kd.R (Kd.int .u8) 5 w95 w.heap.size (fun k_ => some k_ ≠ (v248 : Value).ownBlock ∧ some k_ ≠ (v254 : Value).ownBlock ∧ some k_ ≠ (v260 : Value).ownBlock) v257 t256) := ⟨h3_⟩
                  have n4_ : Aside0 (Kd.R (Kd.int .u8) 5 w95 w.heap.size (fun k_ => some k_ ≠ (v248 : Value).ownBlock ∧ some k_ ≠ (v254 : Value).ownBlock ∧ some k_ ≠ (v257 : Value).ownBlock) v260 t259) := ⟨h4_⟩
                  have n5_ : Aside0 (Kd.R k44 44 w95 w.heap.size (fun k_ => some k_ ≠ (v251 : Value).ownBlock ∧ some k_ ≠ (.slice Ao85 t226.length co85 : Value).ownBlock) v243 t242) := ⟨h5_⟩
                  have n6_ : Aside0 (Kd.R k44 44 w95 w.heap.size (fun k_ => some k_ ≠ (v251 : Value).ownBlock ∧ some k_ ≠ (v243 : Value).ownBlock) (.slice Ao85 t226.length co85) t226) := ⟨h6_⟩
                  have n7_ : Aside0 (Below w.heap.size w w95) := ⟨h7_⟩
                  clear HO_9
                  clear HO_15
                  clear HB
                  clear h0_ h1_ h2_ h3_ h4_ h5_ h6_ h7_
                  have HO249 := n0_
                  have HO252 := n1_
                  have HO255 := n2_
                  have HO258 := n3_
                  have HO261 := n4_
                  have HO_15 := n5_
                  have HO_9 := n6_
                  have HB := n7_
                  clear n0_ n1_ n2_ n3_ n4_ n5_ n6_ n7_
                  have hHeld := trivial
                  refine norm_ (a' := ?_) ?_ ?_
                  rotate_left
                  ·simp only [putAll, Act.put, List.setIfInBounds_toArray, List.set_cons_zero, List.set_cons_succ]
                   rfl
                  refine two_ (i := 11) (j := 14) (Ni := some 118) (Nj := some 121) #[true, true, true, true, true, true, true, true, true, true, true, true, true, true, false, false, false, false, false, false, false, false, false, false, false] #[true, true, true, true, true, true, true, true, true, true, true, false, true, true, true, false, false, false, false, false, false, false, false, false, false] rfl rfl rfl rfl (two_of HT_.out (by kernel_rfl)) (by decide) (by decide) (fun K hK => ?_) (fun K hK => ?_)
                  ·skip
                   have hcv96 := own_string (P := Tryd.prog) Tryd.underlying27 Tryd.underlying5 Tryd.underlying9 (Kd.own_of_R HO258.out)
                   refine value_ (w1 := ?_) (v := ?_) (by rfl) rfl ?_ ?_
                   rotate_left 2
                   ·go_simp
                    constructor
                    ·rfl
                    ·rfl
                   clear hcv96
                   refine hK.out _ _ trivial (fun hHeld => ?_)
                   clear hK K
                   refine norm_ (a' := ?_) ?_ ?_
                   rotate_left
                   ·show Act.put _ (some 118) _ = _
                    simp only [Act.put, List.setIfInBounds_toArray, List.set_cons_zero, List.set_cons_succ, i64_w, i32_w]
                    rfl
                   exact norm_ (by first | (simp only [putAll, Act.put, List.setIfInBounds_toArray, List.set_cons_zero, List.set_cons_succ]; done) | (simp only [putAll, Act.put, List.setIfInBounds_toArray, List.set_cons_zero, List.set_cons_succ]; rfl)) (hJ2_4_5_6_10_11_13 (v251, v254, v257, v260) _ ⟨(by (with_reducible repeat (first | apply Kd.R_alloc | apply Kd.R_drewN | apply Kd.R_drew)); exact HO249.out), (by (with_reducible repeat (first | apply Kd.R_alloc | apply Kd.R_drewN | apply Kd.R_drew)); exact HO252.out), (by (with_reducible repeat (first | apply Kd.R_alloc | apply Kd.R_drewN | apply Kd.R_drew)); exact HO255.out), (by (with_reducible repeat (first | apply Kd.R_alloc | apply Kd.R_drewN | apply Kd.R_drew)); exact HO258.out), (by (with_reducible repeat (first | apply Kd.R_alloc | apply Kd.R_drewN | apply Kd.R_drew)); exact HO261.out), (by (with_reducible repeat (first | apply Kd.R_alloc | apply Kd.R_drewN | apply Kd.R_drew)); exact HO_15.out), (by (with_reducible repeat (first | apply Kd.R_alloc | apply Kd.R_drewN | apply Kd.R_drew)); exact HO_9.out), (by repeat (first | (with_reducible first | exact HB.out | apply below_alloc | apply pw_below_drewN | apply below_drew1) | exact HB.out))⟩)
                  ·skip
                   have hcv96 := own_string (P := Tryd.prog) Tryd.underlying27 Tryd.underlying5 Tryd.underlying9 (Kd.own_of_R HO261.out)
                   refine value_ (w1 := ?_) (v := ?_) (by rfl) rfl ?_ ?_
                   rotate_left 2
                   ·go_simp
                    constructor
                    ·rfl
                    ·rfl
                   clear hcv96
                   refine hK.out _ _ trivial (fun hHeld => ?_)
                   clear hK K
                   refine norm_ (a' := ?_) ?_ ?_
                   rotate_left
                   ·show Act.put _ (some 121) _ = _
                    simp only [Act.put, List.setIfInBounds_toArray, List.set_cons_zero, List.set_cons_succ, i64_w, i32_w]
                    rfl
                   exact norm_ (by first | (simp only [putAll, Act.put, List.setIfInBounds_toArray, List.set_cons_zero, List.set_cons_succ]; done) | (simp only [putAll, Act.put, List.setIfInBounds_toArray, List.set_cons_zero, List.set_cons_succ]; rfl)) (hJ2_4_5_6_10_13_14 (v251, v254, v257, v260) _ ⟨(by (with_reducible repeat (first | apply Kd.R_alloc | apply Kd.R_drewN | apply Kd.R_drew)); exact HO249.out), (by (with_reducible repeat (first | apply Kd.R_alloc | apply Kd.R_drewN | apply Kd.R_drew)); exact HO252.out), (by (with_reducible repeat (first | apply Kd.R_alloc | apply Kd.R_drewN | apply Kd.R_drew)); exact HO255.out), (by (with_reducible repeat (first | apply Kd.R_alloc | apply Kd.R_drewN | apply Kd.R_drew)); exact HO258.out), (by (with_reducible repeat (first | apply Kd.R_alloc | apply Kd.R_drewN | apply Kd.R_drew)); exact HO261.out), (by (with_reducible repeat (first | apply Kd.R_alloc | apply Kd.R_drewN | apply Kd.R_drew)); exact HO_15.out), (by (with_reducible repeat (first | apply Kd.R_alloc | apply Kd.R_drewN | apply Kd.R_drew)); exact HO_9.out), (by repeat (first | (with_reducible first | exact HB.out | apply below_alloc | apply pw_below_drewN | apply below_drew1) | exact HB.out))⟩)
                ·skip
                 rintro ⟨v251, v254, v257⟩ w95 ⟨h0_, h1_, h2_, h3_, h4_, h5_, h6_⟩
                 have n0_ : Aside0 (Kd.R (Kd.int .u8) 5 w95 w.heap.size (fun k_ => some k_ ≠ (v254 : Value).ownBlock ∧ some k_ ≠ (v257 : Value).ownBlock) v248 t247) := ⟨h0_⟩
                 have n1_ : Aside0 (Kd.R k44 44 w95 w.heap.size (fun k_ => some k_ ≠ (v243 : Value).ownBlock ∧ some k_ ≠ (.slice Ao85 t226.length co85 : Value).ownBlock) v251 t250) := ⟨h1_⟩
                 have n2_ : Aside0 (Kd.R (Kd.int .u8) 5 w95 w.heap.size (fun k_ => some k_ ≠ (v248 : Value).ownBlock ∧ some k_ ≠ (v257 : Value).ownBlock) v254 t253) := ⟨h2_⟩
                 have n3_ : Aside0 (Kd.R (Kd.int .u8) 5 w95 w.heap.size (fun k_ => some k_ ≠ (v248 : Value).ownBlock ∧ some k_ ≠ (v254 : Value).ownBlock) v257 t256) := ⟨h3_⟩
                 have n4_ : Aside0 (Kd.R k44 44 w95 w.heap.size (fun k_ => some k_ ≠ (v251 : Value).ownBlock ∧ some k_ ≠ (.slice Ao85 t226.length co85 : Value).ownBlock) v243 t242) := ⟨h4_⟩
                 have n5_ : Aside0 (Kd.R k44 44 w95 w.heap.size (fun k_ => some k_ ≠ (v251 : Value).ownBlock ∧ some k_ ≠ (v243 : Value).ownBlock) (.slice Ao85 t226.length co85) t226) := ⟨h5_⟩
                 have n6_ : Aside0 (Below w.heap.size w w95) := ⟨h6_⟩
                 clear HO_9
                 clear HO_15
                 clear HB
                 clear h0_ h1_ h2_ h3_ h4_ h5_ h6_
                 have HO249 := n0_
                 have HO252 := n1_
                 have HO255 := n2_
                 have HO258 := n3_
                 have HO_15 := n4_
                 have HO_9 := n5_
                 have HB := n6_
                 clear n0_ n1_ n2_ n3_ n4_ n5_ n6_
                 have hHeld := trivial
                 refine norm_ (a' := ?_) ?_ ?_
                 rotate_left
                 ·simp only [putAll, Act.put, List.setIfInBounds_toArray, List.set_cons_zero, List.set_cons_succ]
                  rfl
                 refine one_ (i := 13) (N := some 120) #[true, true, true, true, true, true, true, true, true, true, true, true, true, true, false, false, false, false, false, false, false, false, false, false, false] rfl rfl (one_of HT_.out (by kernel_rfl)) (by decide) (fun K hK => ?_)
                 refine goes_ Tryd.func18 (by kernel_rfl) rfl #[.slice A1 l1.length c1] (by rfl) rfl rfl (by (try simp only [List.map_toArray, List.map_cons, List.map_nil]); first | done | rfl | (simp only [List.length_drop, List.length_take]; rfl)) ?_
                 with_reducible refine (tocsinref8_PutTrace.calls k3 _ _ l1 t259 _ ?side1 ?side2 A81.out).mono ?_
                 (case side1 => repeat (first | exact (Kd.C_below HR1.out HB.out) | (with_reducible refine Kd.C_alloc ?_ _) | (with_reducible refine Kd.C_drewN ?_ _) | (with_reducible refine Kd.C_drew ?_)))
                 (case side2 => exact HC1.out)
                 rintro e w96 ⟨v260, rfl, ho0, hb⟩
                 refine ⟨_, rfl, ?_⟩
                 have n0_ := Aside0.mk (Kd.R_below (by (with_reducible repeat (first | apply Kd.R_alloc | apply Kd.R_drewN | apply Kd.R_drew)); exact HO_9.out) hb)
                 have n1_ := Aside0.mk (Kd.R_below (by (with_reducible repeat (first | apply Kd.R_alloc | apply Kd.R_drewN | apply Kd.R_drew)); exact HO_15.out) hb)
                 have n2_ := Aside0.mk (Kd.R_elder' (by (with_reducible repeat (first | apply Kd.R_alloc | apply Kd.R_drewN | apply Kd.R_drew)); exact HO249.out) (Kd.R_base ho0) hb)
                 have n3_ := Aside0.mk (Kd.R_below (by (with_reducible repeat (first | apply Kd.R_alloc | apply Kd.R_drewN | apply Kd.R_drew)); exact HO252.out) hb)
                 have n4_ := Aside0.mk (Kd.R_elder' (by (with_reducible repeat (first | apply Kd.R_alloc | apply Kd.R_drewN | apply Kd.R_drew)); exact HO255.out) (Kd.R_base ho0) hb)
                 have n5_ := Aside0.mk (Kd.R_elder' (by (with_reducible repeat (first | apply Kd.R_alloc | apply Kd.R_drewN | apply Kd.R_drew)); exact HO258.out) (Kd.R_base ho0) hb)
                 have n6_ := Aside0.mk (Kd.R_lower (Kd.R_new' (Kd.R_new' (Kd.R_new' ho0 (Kd.R_lt (by (with_reducible repeat (first | apply Kd.R_alloc | apply Kd.R_drewN | apply Kd.R_drew)); exact HO249.out))) (Kd.R_lt (by (with_reducible repeat (first | apply Kd.R_alloc | apply Kd.R_drewN | apply Kd.R_drew)); exact HO255.out))) (Kd.R_lt (by (with_reducible repeat (first | apply Kd.R_alloc | apply Kd.R_drewN | apply Kd.R_drew)); exact HO258.out))) (below_size (by repeat (first | (with_reducible first | exact HB.out | apply below_alloc | apply pw_below_drewN | apply below_drew1) | exact HB.out))))
                 have n7_ := Aside0.mk (below_step (by repeat (first | (with_reducible first | exact HB.out | apply below_alloc | apply pw_below_drewN | apply below_drew1) | exact HB.out)) hb)
                 clear HO_9
                 clear HO_15
                 clear HO249
                 clear HO252
                 clear HO255
                 clear HO258
                 clear HB
                 have HO_9 := n0_
                 have HO_15 := n1_
                 have HO249 := n2_
                 have HO252 := n3_
                 have HO255 := n4_
                 have HO258 := n5_
                 have HO261 := n6_
                 have HB := n7_
                 clear n0_ n1_ n2_ n3_ n4_ n5_ n6_ n7_
                 (try clear hb)
                 (try clear hb2)
                 (try clear hk)
                 (try clear hi)
                 (try clear ho0)
                 refine hK.out _ _ trivial (fun hHeld => ?_)
                 clear hK K
                 refine norm_ (a' := ?_) ?_ ?_
                 rotate_left
                 ·show Act.put _ (some 120) _ = _
                  simp only [Act.put, List.setIfInBounds_toArray, List.set_cons_zero, List.set_cons_succ, i64_w, i32_w]
                  rfl
                 exact norm_ (by first | (simp only [putAll, Act.put, List.setIfInBounds_toArray, List.set_cons_zero, List.set_cons_succ]; done) | (simp only [putAll, Act.put, List.setIfInBounds_toArray, List.set_cons_zero, List.set_cons_succ]; rfl)) (hJ2_4_5_6_10_11_13 (v251, v254, v257, v260) _ ⟨(by (with_reducible repeat (first | apply Kd.R_alloc | apply Kd.R_drewN | apply Kd.R_drew)); exact Kd.R_mono HO249.out (fun _ hk => ⟨hk.1.1, ⟨hk.1.2, hk.2⟩⟩)), (by (with_reducible repeat (first | apply Kd.R_alloc | apply Kd.R_drewN | apply Kd.R_drew)); exact HO252.out), (by (with_reducible repeat (first | apply Kd.R_alloc | apply Kd.R_drewN | apply Kd.R_drew)); exact Kd.R_mono HO255.out (fun _ hk => ⟨hk.1.1, ⟨hk.1.2, hk.2⟩⟩)), (by (with_reducible repeat (first | apply Kd.R_alloc | apply Kd.R_drewN | apply Kd.R_drew)); exact Kd.R_mono HO258.out (fun _ hk => ⟨hk.1.1, ⟨hk.1.2, hk.2⟩⟩)), (by (with_reducible repeat (first | apply Kd.R_alloc | apply Kd.R_drewN | apply Kd.R_drew)); exact Kd.R_mono HO261.out (fun _ hk => ⟨hk.1.1.2, ⟨hk.1.2, hk.2⟩⟩)), (by (with_reducible repeat (first | apply Kd.R_alloc | apply Kd.R_drewN | apply Kd.R_drew)); exact HO_15.out), (by (with_reducible repeat (first | apply Kd.R_alloc | apply Kd.R_drewN | apply Kd.R_drew)); exact HO_9.out), (by repeat (first | (with_reducible first | exact HB.out | apply below_alloc | apply pw_below_drewN | apply below_drew1) | exact HB.out))⟩)
               ·skip
                rintro ⟨v251, v254, v257, v260⟩ w96 ⟨h0_, h1_, h2_, h3_, h4_, h5_, h6_, h7_⟩
                have n0_ : Aside0 (Kd.R (Kd.int .u8) 5 w96 w.heap.size (fun k_ => some k_ ≠ (v254 : Value).ownBlock ∧ some k_ ≠ (v257 : Value).ownBlock ∧ some k_ ≠ (v260 : Value).ownBlock) v248 t247) := ⟨h0_⟩
                have n1_ : Aside0 (Kd.R k44 44 w96 w.heap.size (fun k_ => some k_ ≠ (v243 : Value).ownBlock ∧ some k_ ≠ (.slice Ao85 t226.length co85 : Value).ownBlock) v251 t250) := ⟨h1_⟩
                have n2_ : Aside0 (Kd.R (Kd.int .u8) 5 w96 w.heap.size (fun k_ => some k_ ≠ (v248 : Value).ownBlock ∧ some k_ ≠ (v257 : Value).ownBlock ∧ some k_ ≠ (v260 : Value).ownBlock) v254 t253) := ⟨h2_⟩
                have n3_ : Aside0 (Kd.R (Kd.int .u8) 5 w96 w.heap.size (fun k_ => some k_ ≠ (v248 : Value).ownBlock ∧ some k_ ≠ (v254 : Value).ownBlock ∧ some k_ ≠ (v260 : Value).ownBlock) v257 t256) := ⟨h3_⟩
                have n4_ : Aside0 (Kd.R (Kd.int .u8) 5 w96 w.heap.size (fun k_ => some k_ ≠ (v248 : Value).ownBlock ∧ some k_ ≠ (v254 : Value).ownBlock ∧ some k_ ≠ (v257 : Value).ownBlock) v260 t259) := ⟨h4_⟩
                have n5_ : Aside0 (Kd.R k44 44 w96 w.heap.size (fun k_ => some k_ ≠ (v251 : Value).ownBlock ∧ some k_ ≠ (.slice Ao85 t226.length co85 : Value).ownBlock) v243 t242) := ⟨h5_⟩
                have n6_ : Aside0 (Kd.R k44 44 w96 w.heap.size (fun k_ => some k_ ≠ (v251 : Value).ownBlock ∧ some k_ ≠ (v243 : Value).ownBlock) (.slice Ao85 t226.length co85) t226) := ⟨h6_⟩
                have n7_ : Aside0 (Below w.heap.size w w96) := ⟨h7_⟩
                clear HO_9
                clear HO_15
                clear HB
                clear h0_ h1_ h2_ h3_ h4_ h5_ h6_ h7_
                have HO249 := n0_
                have HO252 := n1_
                have HO255 := n2_
                have HO258 := n3_
                have HO261 := n4_
                have HO_15 := n5_
                have HO_9 := n6_
                have HB := n7_
                clear n0_ n1_ n2_ n3_ n4_ n5_ n6_ n7_
                have hHeld := trivial
                refine norm_ (a' := ?_) ?_ ?_
                rotate_left
                ·simp only [putAll, Act.put, List.setIfInBounds_toArray, List.set_cons_zero, List.set_cons_succ]
                 rfl
                refine one_ (i := 11) (N := some 118) #[true, true, true, true, true, true, true, true, true, true, true, true, true, true, true, false, false, false, false, false, false, false, false, false, false] rfl rfl (one_of HT_.out (by kernel_rfl)) (by decide) (fun K hK => ?_)
                have hcv97 := own_string (P := Tryd.prog) Tryd.underlying27 Tryd.underlying5 Tryd.underlying9 (Kd.own_of_R HO258.out)
                refine value_ (w1 := ?_) (v := ?_) (by rfl) rfl ?_ ?_
                rotate_left 2
                ·go_simp
                 constructor
                 ·rfl
                 ·rfl
                clear hcv97
                refine hK.out _ _ trivial (fun hHeld => ?_)
                clear hK K
                refine norm_ (a' := ?_) ?_ ?_
                rotate_left
                ·show Act.put _ (some 118) _ = _
                 simp only [Act.put, List.setIfInBounds_toArray, List.set_cons_zero, List.set_cons_succ, i64_w, i32_w]
                 rfl
                exact norm_ (by first | (simp only [putAll, Act.put, List.setIfInBounds_toArray, List.set_cons_zero, List.set_cons_succ]; done) | (simp only [putAll, Act.put, List.setIfInBounds_toArray, List.set_cons_zero, List.set_cons_succ]; rfl)) (hJ2_4_5_6_10_11_13_14 (v251, v254, v257, v260) _ ⟨(by (with_reducible repeat (first | apply Kd.R_alloc | apply Kd.R_drewN | apply Kd.R_drew)); exact HO249.out), (by (with_reducible repeat (first | apply Kd.R_alloc | apply Kd.R_drewN | apply Kd.R_drew)); exact HO252.out), (by (with_reducible repeat (first | apply Kd.R_alloc | apply Kd.R_drewN | apply Kd.R_drew)); exact HO255.out), (by (with_reducible repeat (first | apply Kd.R_alloc | apply Kd.R_drewN | apply Kd.R_drew)); exact HO258.out), (by (with_reducible repeat (first | apply Kd.R_alloc | apply Kd.R_drewN | apply Kd.R_drew)); exact HO261.out), (by (with_reducible repeat (first | apply Kd.R_alloc | apply Kd.R_drewN | apply Kd.R_drew)); exact HO_15.out), (by (with_reducible repeat (first | apply Kd.R_alloc | apply Kd.R_drewN | apply Kd.R_drew)); exact HO_9.out), (by repeat (first | (with_reducible first | exact HB.out | apply below_alloc | apply pw_below_drewN | apply below_drew1) | exact HB.out))⟩)
              ·skip
               rintro ⟨v251, v254, v257, v260⟩ w96 ⟨h0_, h1_, h2_, h3_, h4_, h5_, h6_, h7_⟩
               have n0_ : Aside0 (Kd.R (Kd.int .u8) 5 w96 w.heap.size (fun k_ => some k_ ≠ (v254 : Value).ownBlock ∧ some k_ ≠ (v257 : Value).ownBlock ∧ some k_ ≠ (v260 : Value).ownBlock) v248 t247) := ⟨h0_⟩
               have n1_ : Aside0 (Kd.R k44 44 w96 w.heap.size (fun k_ => some k_ ≠ (v243 : Value).ownBlock ∧ some k_ ≠ (.slice Ao85 t226.length co85 : Value).ownBlock) v251 t250) := ⟨h1_⟩
               have n2_ : Aside0 (Kd.R (Kd.int .u8) 5 w96 w.heap.size (fun k_ => some k_ ≠ (v248 : Value).ownBlock ∧ some k_ ≠ (v257 : Value).ownBlock ∧ some k_ ≠ (v260 : Value).ownBlock) v254 t253) := ⟨h2_⟩
               have n3_ : Aside0 (Kd.R (Kd.int .u8) 5 w96 w.heap.size (fun k_ => some k_ ≠ (v248 : Value).ownBlock ∧ some k_ ≠ (v254 : Value).ownBlock ∧ some k_ ≠ (v260 : Value).ownBlock) v257 t256) := ⟨h3_⟩
               have n4_ : Aside0 (Kd.R (Kd.int .u8) 5 w96 w.heap.size (fun k_ => some k_ ≠ (v248 : Value).ownBlock ∧ some k_ ≠ (v254 : Value).ownBlock ∧ some k_ ≠ (v257 : Value).ownBlock) v260 t259) := ⟨h4_⟩
               have n5_ : Aside0 (Kd.R k44 44 w96 w.heap.size (fun k_ => some k_ ≠ (v251 : Value).ownBlock ∧ some k_ ≠ (.slice Ao85 t226.length co85 : Value).ownBlock) v243 t242) := ⟨h5_⟩
               have n6_ : Aside0 (Kd.R k44 44 w96 w.heap.size (fun k_ => some k_ ≠ (v251 : Value).ownBlock ∧ some k_ ≠ (v243 : Value).ownBlock) (.slice Ao85 t226.length co85) t226) := ⟨h6_⟩
               have n7_ : Aside0 (Below w.heap.size w w96) := ⟨h7_⟩
               clear HO_9
               clear HO_15
               clear HB
               clear h0_ h1_ h2_ h3_ h4_ h5_ h6_ h7_
               have HO249 := n0_
               have HO252 := n1_
               have HO255 := n2_
               have HO258 := n3_
               have HO261 := n4_
               have HO_15 := n5_
               have HO_9 := n6_
               have HB := n7_
               clear n0_ n1_ n2_ n3_ n4_ n5_ n6_ n7_
               have hHeld := trivial
               refine norm_ (a' := ?_) ?_ ?_
               rotate_left
               ·simp only [putAll, Act.put, List.setIfInBounds_toArray, List.set_cons_zero, List.set_cons_succ]
                rfl
               refine one_ (i := 14) (N := some 121) #[true, true, true, true, true, true, true, true, true, true, true, true, true, true, true, false, false, false, false, false, false, false, false, false, false] rfl rfl (one_of HT_.out (by kernel_rfl)) (by decide) (fun K hK => ?_)
               have hcv97 := own_string (P := Tryd.prog) Tryd.underlying27 Tryd.underlying5 Tryd.underlying9 (Kd.own_of_R HO261.out)
               refine value_ (w1 := ?_) (v := ?_) (by rfl) rfl ?_ ?_
               rotate_left 2
               ·go_simp
                constructor
                ·rfl
                ·rfl
               clear hcv97
               refine hK.out _ _ trivial (fun hHeld => ?_)
               clear hK K
               refine norm_ (a' := ?_) ?_ ?_
               rotate_left
               ·show Act.put _ (some 121) _ = _
                simp only [Act.put, List.setIfInBounds_toArray, List.set_cons_zero, List.set_cons_succ, i64_w, i32_w]
                rfl
               exact norm_ (by first | (simp only [putAll, Act.put, List.setIfInBounds_toArray, List.set_cons_zero, List.set_cons_succ]; done) | (simp only [putAll, Act.put, List.setIfInBounds_toArray, List.set_cons_zero, List.set_cons_succ]; rfl)) (hJ2_4_5_6_10_11_13_14 (v251, v254, v257, v260) _ ⟨(by (with_reducible repeat (first | apply Kd.R_alloc | apply Kd.R_drewN | apply Kd.R_drew)); exact HO249.out), (by (with_reducible repeat (first | apply Kd.R_alloc | apply Kd.R_drewN | apply Kd.R_drew)); exact HO252.out), (by (with_reducible repeat (first | apply Kd.R_alloc | apply Kd.R_drewN | apply Kd.R_drew)); exact HO255.out), (by (with_reducible repeat (first | apply Kd.R_alloc | apply Kd.R_drewN | apply Kd.R_drew)); exact HO258.out), (by (with_reducible repeat (first | apply Kd.R_alloc | apply Kd.R_drewN | apply Kd.R_drew)); exact HO261.out), (by (with_reducible repeat (first | apply Kd.R_alloc | apply Kd.R_drewN | apply Kd.R_drew)); exact HO_15.out), (by (with_reducible repeat (first | apply Kd.R_alloc | apply Kd.R_drewN | apply Kd.R_drew)); exact HO_9.out), (by repeat (first | (with_reducible first | exact HB.out | apply below_alloc | apply pw_below_drewN | apply below_drew1) | exact HB.out))⟩)
             rintro ⟨v251, v254, v257, v260⟩ w97 ⟨h0_, h1_, h2_, h3_, h4_, h5_, h6_, h7_⟩
             have n0_ : Aside0 (Kd.R (Kd.int .u8) 5 w97 w.heap.size (fun k_ => some k_ ≠ (v254 : Value).ownBlock ∧ some k_ ≠ (v257 : Value).ownBlock ∧ some k_ ≠ (v260 : Value).ownBlock) v248 t247) := ⟨h0_⟩
             have n1_ : Aside0 (Kd.R k44 44 w97 w.heap.size (fun k_ => some k_ ≠ (v243 : Value).ownBlock ∧ some k_ ≠ (.slice Ao85 t226.length co85 : Value).ownBlock) v251 t250) := ⟨h1_⟩
             have n2_ : Aside0 (Kd.R (Kd.int .u8) 5 w97 w.heap.size (fun k_ => some k_ ≠ (v248 : Value).ownBlock ∧ some k_ ≠ (v257 : Value).ownBlock ∧ some k_ ≠ (v260 : Value).ownBlock) v254 t253) := ⟨h2_⟩
             have n3_ : Aside0 (Kd.R (Kd.int .u8) 5 w97 w.heap.size (fun k_ => some k_ ≠ (v248 : Value).ownBlock ∧ some k_ ≠ (v254 : Value).ownBlock ∧ some k_ ≠ (v260 : Value).ownBlock) v257 t256) := ⟨h3_⟩
             have n4_ : Aside0 (Kd.R (Kd.int .u8) 5 w97 w.heap.size (fun k_ => some k_ ≠ (v248 : Value).ownBlock ∧ some k_ ≠ (v254 : Value).ownBlock ∧ some k_ ≠ (v257 : Value).ownBlock) v260 t259) := ⟨h4_⟩
             have n5_ : Aside0 (Kd.R k44 44 w97 w.heap.size (fun k_ => some k_ ≠ (v251 : Value).ownBlock ∧ some k_ ≠ (.slice Ao85 t226.length co85 : Value).ownBlock) v243 t242) := ⟨h5_⟩
             have n6_ : Aside0 (Kd.R k44 44 w97 w.heap.size (fun k_ => some k_ ≠ (v251 : Value).ownBlock ∧ some k_ ≠ (v243 : Value).ownBlock) (.slice Ao85 t226.length co85) t226) := ⟨h6_⟩
             have n7_ : Aside0 (Below w.heap.size w w97) := ⟨h7_⟩
             clear HO_9
             clear HO_15
             clear HB
             clear h0_ h1_ h2_ h3_ h4_ h5_ h6_ h7_
             have HO249 := n0_
             have HO252 := n1_
             have HO255 := n2_
             have HO258 := n3_
             have HO261 := n4_
             have HO_15 := n5_
             have HO_9 := n6_
             have HB := n7_
             clear n0_ n1_ n2_ n3_ n4_ n5_ n6_ n7_
             have hHeld := trivial
             refine norm_ (a' := ?_) ?_ ?_
             rotate_left
             ·simp only [putAll, Act.put, List.setIfInBounds_toArray, List.set_cons_zero, List.set_cons_succ]
              rfl
             refine pure_ (i := 15) (N := some 122) (v := ?_) (a' := ?_) #[true, true, true, true, true, true, true, true, true, true, true, true, true, true, true, true, false, false, false, false, false, false, false, false, false] rfl rfl (any_of HT_.out (by kernel_rfl)) (fun _ _ _ h => h) (Or.inl ⟨by rfl, ?_⟩) ?_ ?_
             rotate_left
             ·intro w'
              go_simp
              with_reducible rfl
             rotate_left
             ·simp only [Act.put, List.setIfInBounds_toArray, List.set_cons_zero, List.set_cons_succ, i64_w, i32_w]
              rfl
             refine pure_ (i := 16) (N := some 123) (v := ?_) (a' := ?_) #[true, true, true, true, true, true, true, true, true, true, true, true, true, true, true, true, true, false, false, false, false, false, false, false, false] rfl rfl (any_of HT_.out (by kernel_rfl)) (fun _ _ _ h => h) (Or.inl ⟨by rfl, ?_⟩) ?_ ?_
             rotate_left
             ·intro w'
              go_simp
              with_reducible rfl
             rotate_left
             ·simp only [Act.put, List.setIfInBounds_toArray, List.set_cons_zero, List.set_cons_succ, i64_w, i32_w]
              rfl
             refine pure_ (i := 17) (N := some 124) (v := ?_) (a' := ?_) #[true, true, true, true, true, true, true, true, true, true, true, true, true, true, true, true, true, true, false, false, false, false, false, false, false] rfl rfl (any_of HT_.out (by kernel_rfl)) (fun _ _ _ h => h) (Or.inl ⟨by rfl, ?_⟩) ?_ ?_
             rotate_left
             ·intro w'
              go_simp
              with_reducible rfl
             rotate_left
             ·simp only [Act.put, List.setIfInBounds_toArray, List.set_cons_zero, List.set_cons_succ, i64_w, i32_w]
              rfl
             refine pure_ (i := 18) (N := some 125) (v := ?_) (a' := ?_) #[true, true, true, true, true, true, true, true, true, true, true, true, true, true, true, true, true, true, true, false, false, false, false, false, false] rfl rfl (any_of HT_.out (by kernel_rfl)) (fun _ _ _ h => h) (Or.inl ⟨by rfl, ?_⟩) ?_ ?_
             rotate_left
             ·intro w'
              go_simp
              with_reducible rfl
             rotate_left
             ·simp only [Act.put, List.setIfInBounds_toArray, List.set_cons_zero, List.set_cons_succ, i64_w, i32_w]
              rfl
             refine pure_ (i := 20) (N := some 127) (v := ?_) (a' := ?_) #[true, true, true, true, true, true, true, true, true, true, true, true, true, true, true, true, true, true, true, false, true, false, false, false, false] rfl rfl (any_of HT_.out (by kernel_rfl)) (fun _ _ _ h => h) (Or.inl ⟨by rfl, ?_⟩) ?_ ?_
             rotate_left
             ·intro w'
              go_simp
              with_reducible rfl
             rotate_left
             ·simp only [Act.put, List.setIfInBounds_toArray, List.set_cons_zero, List.set_cons_succ, i64_w, i32_w]
              rfl
             refine one_ (i := 19) (N := some 126) #[true, true, true, true, true, true, true, true, true, true, true, true, true, true, true, true, true, true, true, true, true, false, false, false, false] rfl rfl (one_of HT_.out (by kernel_rfl)) (by decide) (fun K hK => ?_)
             refine goes_ Tryd.func11 (by kernel_rfl) rfl #[.slice A2 l2.length c2] (by rfl) rfl rfl (by (try simp only [List.map_toArray, List.map_cons, List.map_nil]); first | done | rfl | (simp only [List.length_drop, List.length_take]; rfl)) ?_
             with_reducible refine (codec_Sum.calls k3 _ _ l2 t262 _ ?side1 ?side2 A83.out).mono ?_
             (case side1 => repeat (first | exact (Kd.C_below HR2.out HB.out) | (with_reducible refine Kd.C_alloc ?_ _) | (with_reducible refine Kd.C_drewN ?_ _) | (with_reducible refine Kd.C_drew ?_)))
             (case side2 => exact HC2.out)
             rintro e w' ⟨rfl, ⟨nd, rfl⟩⟩
             refine ⟨_, rfl, ?_⟩
             refine hK.out _ _ trivial (fun hHeld => ?_)
             clear hK K
             refine norm_ (a' := ?_) ?_ ?_
             rotate_left
             ·show Act.put _ (some 126) _ = _
              simp only [Act.put, List.setIfInBounds_toArray, List.set_cons_zero, List.set_cons_succ, i64_w, i32_w]
              rfl
             refine one_ (i := 21) (N := some 128) #[true, true, true, true, true, true, true, true, true, true, true, true, true, true, true, true, true, true, true, true, true, true, false, false, false] rfl rfl (one_of HT_.out (by kernel_rfl)) (by decide) (fun K hK => ?_)
             refine goes_ Tryd.func19 (by kernel_rfl) rfl #[.slice A2 l2.length c2] (by rfl) rfl rfl (by (try simp only [List.map_toArray, List.map_cons, List.map_nil]); first | done | rfl | (simp only [List.length_drop, List.length_take]; rfl)) ?_
             with_reducible refine (tocsinref8_CodeSum.calls k3 _ _ l2 t263 _ ?side1 ?side2 A84.out).mono ?_
             (case side1 => repeat (first | exact (Kd.C_below HR2.out (by repeat (first | (with_reducible first | exact HB.out | apply below_alloc | apply pw_below_drewN | apply below_drew1) | exact HB.out))) | (with_reducible refine Kd.C_alloc ?_ _) | (with_reducible refine Kd.C_drewN ?_ _) | (with_reducible refine Kd.C_drew ?_)))
             (case side2 => exact HC2.out)
             rintro e w' ⟨rfl, ⟨nd, rfl⟩⟩
             refine ⟨_, rfl, ?_⟩
             refine hK.out _ _ trivial (fun hHeld => ?_)
             clear hK K
             refine norm_ (a' := ?_) ?_ ?_
             rotate_left
             ·show Act.put _ (some 128) _ = _
              simp only [Act.put, List.setIfInBounds_toArray, List.set_cons_zero, List.set_cons_succ, i64_w, i32_w]
              rfl
             refine pure_ (i := 22) (N := some 129) (v := ?_) (a' := ?_) #[true, true, true, true, true, true, true, true, true, true, true, true, true, true, true, true, true, true, true, true, true, true, true, false, false] rfl rfl (any_of HT_.out (by kernel_rfl)) (fun _ _ _ h => h) (Or.inl ⟨by rfl, ?_⟩) ?_ ?_
             rotate_left
             ·intro w'
              go_simp
              with_reducible rfl
             rotate_left
             ·simp only [Act.put, List.setIfInBounds_toArray, List.set_cons_zero, List.set_cons_succ, i64_w, i32_w]
              rfl
             refine pure_ (i := 23) (N := some 130) (v := ?_) (a' := ?_) #[true, true, true, true, true, true, true, true, true, true, true, true, true, true, true, true, true, true, true, true, true, true, true, true, false] rfl rfl (any_of HT_.out (by kernel_rfl)) (fun _ _ _ h => h) (Or.inl ⟨by rfl, ?_⟩) ?_ ?_
             rotate_left
             ·intro w'
              go_simp
              with_reducible rfl
             rotate_left
             ·simp only [Act.put, List.setIfInBounds_toArray, List.set_cons_zero, List.set_cons_succ, i64_w, i32_w]
              rfl
             refine pure_ (i := 24) (N := some 6) (v := ?_) (a' := ?_) #[true, true, true, true, true, true, true, true, true, true, true, true, true, true, true, true, true, true, true, true, true, true, true, true, true] rfl rfl (any_of HT_.out (by kernel_rfl)) (fun _ _ _ h => h) (Or.inl ⟨by rfl, ?_⟩) ?_ ?_
             rotate_left
             ·intro w'
              go_simp
              with_reducible rfl
             rotate_left
             ·simp only [Act.put, List.setIfInBounds_toArray, List.set_cons_zero, List.set_cons_succ, i64_w, i32_w]
              rfl
             refine done_ (done_of HT_.out (by kernel_rfl)) ?_
             try go_wp2
             go_ret
             exact ⟨by first | rfl | (simp [errW_none, errW_some] <;> rfl) | (simp [*, errW_none, errW_some] <;> rfl), by repeat (first | (with_reducible first | exact HB.out | apply below_alloc | apply pw_below_drewN | apply below_drew1) | exact HB.out)⟩
            ·rw [if_neg c82] at H
             have c82b0 : ((strOfNums t256).toList == (strOfNums t259).toList) = false := beq_eq_false_iff_ne.mpr c82
             have c82b1 : ((strOfNums t256).toList != (strOfNums t259).toList) = true := bne_iff_ne.mpr c82
             obtain rfl := Option.some.inj H
             exact absurd hr_ (by decide)
           ·rw [if_neg c79] at H
            have c79b0 : ((strOfNums t247).toList == (strOfNums t253).toList) = false := beq_eq_false_iff_ne.mpr c79
            have c79b1 : ((strOfNums t247).toList != (strOfNums t253).toList) = true := bne_iff_ne.mpr c79
            obtain rfl := Option.some.inj H
            exact absurd hr_ (by decide)
 ·replace c5 := Bool.eq_false_iff.mpr c5
  subst c5
  have H1 : (some false) = some r := by rw [if_neg (show ¬ (false = true) by decide)] at H; exact H
  clear H
  have H := H1
  clear H1
  obtain rfl := Option.some.inj H
  exact absurd hr_ (by decide)

end Go.Proofs.YtpgfecaomdioeaaDoor.PCt
