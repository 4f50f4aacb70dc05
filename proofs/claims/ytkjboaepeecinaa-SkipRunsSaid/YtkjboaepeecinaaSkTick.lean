/- The contract of one tick of skip's runner. -/
import Derived.Test.YtkjboaepeecinaaPSkx0
import Derived.Test.YtkjboaepeecinaaSkTurn
namespace Go.Proofs.Ytkjboaepeecinaa.PSk
open Go.RowKit Go.Proofs.Ytkjboaepeecinaa.PSk Go.Proofs.YtkjboaepeecinaaW.PrintWords Go.Proofs.YtkjboaepeecinaaW.PrintLast Go.Proofs.YtkjboaepeecinaaW.PrintMore 
set_option linter.unusedVariables false
set_option linter.unusedSimpArgs false

def TickV (W0 : World) (R : Nat) (vl : Value) (A : List Nat) (S : List St) (blue : Bool) (T : List Int) (M : List S33) (e : Ending) (w' : World) : Prop :=
  e = .returned (.tuple #[]) ∧ (∃ vt vm, RunC W0 w' R vl vt vm A S blue T M) ∧ Below W0.heap.size W0 w'
theorem infoInt : (Try.prog.info? 3).map (fun i => (i.zero, i.size, i.bytes)) = some (some (.int .i64 0), 1, 8) := by kernel_rfl
theorem firstS_bd (red : Bool) (S : List St) : firstS red S = -1 ∨ (0 ≤ firstS red S ∧ firstS red S < S.length) := firstTo_bd red S S.length
attribute [local go_sem] max2_int min2_int max_two min_two
set_option maxHeartbeats 4000000 in
set_option maxRecDepth 100000 in
theorem tick_c (W0 W : World) (R : Nat) (vl vt vm : Value) (A : List Nat) (S : List St) (blue : Bool) (T : List Int) (M : List S33) (h : RunC W0 W R vl vt vm A S blue T M) (hB : Below W0.heap.size W0 W) (hal : A.length ≤ 1000) (hbd : ∀ x ∈ S, bdS x) (hT : T.length ≤ 1000000) (hR : W0.heap.size ≤ R) :
    Calls Try.prog 23 #[.pointer (some ⟨R, 0, none⟩)] W (TickV W0 R vl A (decS S (atS blue S)) blue (T ++ [atS blue S]) M) := by
  have HC := Aside0.mk h
  have HBw := Aside0.mk hB
  have HLT := Aside0.mk hT
  have HRB := Aside0.mk hR
  have HSB := Aside0.mk hbd
  have C1 : Aside0 (∀ W' vt', RunC W0 W' R vl vt' vm A S blue T M → Calls Try.prog 33 #[.pointer (some ⟨R, 0, none⟩), .bool true] W' fun e w' => e = .returned (.int .i64 (firstS true S)) ∧ ∃ n, w' = W'.drewN n) := ⟨fun W' vt' hW => first_c W0 W' R vl vt' vm A S blue T M true hW hal⟩
  have C2 : Aside0 (∀ W' vt', RunC W0 W' R vl vt' vm A S blue T M → Calls Try.prog 33 #[.pointer (some ⟨R, 0, none⟩), .bool false] W' fun e w' => e = .returned (.int .i64 (firstS false S)) ∧ ∃ n, w' = W'.drewN n) := ⟨fun W' vt' hW => first_c W0 W' R vl vt' vm A S blue T M false hW hal⟩
  have hb1 := firstS_bd true S
  have hb2 := firstS_bd false S
  obtain ⟨At, ct, rfl⟩ := Kd.R_slice h.2.2.1
  obtain ⟨Al, cl, rfl⟩ := Kd.R_slice h.2.1
  have hln := h.2.2.2.2.2.1
  have c1 : W.cell? ⟨R, 1, none⟩ = some (.bool blue) := (blk_cell h.1 1).trans rfl
  have FX : ∀ b : Int, 0 ≤ b → b < S.length → ∃ ad a x, Al = some ad ∧ A[b.toNat]? = some a ∧ S[b.toNat]? = some x ∧ x ∈ S ∧ S.getD b.toNat default = x ∧ W0.heap.size ≤ a ∧ ∀ W' vt', RunC W0 W' R (.slice Al A.length cl) vt' vm A S blue T M → W'.cell? ⟨R, 0, none⟩ = some (.slice Al A.length cl) ∧ W'.cell? (ad.add b.toNat) = some (.pointer (some ⟨a, 0, none⟩)) ∧ W'.heap[a]? = some (.cells (stC x) 62 (0, 0)) := by
    intro b h0 h1
    have hC := (Kd.R_reads' h.2.1).2.2
    obtain ⟨ad, rfl, _⟩ := ptr_at hC b h0 (by omega)
    have hx : S[b.toNat]? = some (S.getD b.toNat default) := by rw [List.getD_eq_getElem?_getD, List.getElem?_eq_getElem (by omega)]; rfl
    have ha : A[b.toNat]? = some (A.getD b.toNat 0) := by rw [List.getD_eq_getElem?_getD, List.getElem?_eq_getElem (by omega)]; rfl
    refine ⟨ad, A.getD b.toNat 0, S.getD b.toNat default, rfl, ha, hx, List.mem_of_getElem? hx, rfl, (h.2.2.2.2.2.2 _ _ _ ha hx).2, fun W' vt' hW => ⟨(blk_cell hW.1 0).trans rfl, ?_, (hW.2.2.2.2.2.2 _ _ _ ha hx).1⟩⟩
    obtain ⟨ad', e, hp⟩ := ptr_at (Kd.R_reads' hW.2.1).2.2 b h0 (by omega)
    injection e with e
    subst e
    exact hp
  clear h hB hT hR hbd
  by_cases q : firstS true S = -1
  · have C1' : Aside0 (∀ W' vt', RunC W0 W' R (.slice Al A.length cl) vt' vm A S blue T M → Calls Try.prog 33 #[.pointer (some ⟨R, 0, none⟩), .bool true] W' fun e w' => e = .returned (.int .i64 (-1)) ∧ ∃ n, w' = W'.drewN n) := ⟨fun W' vt' hW => by have := C1.out W' vt' hW; rw [q] at this; exact this⟩
    cases blue with
    | false =>
      have ea : atS false S = -1 := by unfold atS; rw [if_neg (by simp), q]
      have ed : decS S (-1) = S := by unfold decS; rw [if_pos rfl]
      rw [ea, ed]
      clear ea ed C2 C1 hb2 hb1 FX q hln
      go_enter Try.func23, Try.ntmps23
      go_wp2_with (first | (go_at_call 33; (with_reducible refine (C1'.out _ _ HC.out).mono ?_); rintro e w7 ⟨rfl, nd, rfl⟩; have HC1 := Aside0.mk (RunC_drewN HC.out nd); have HB1 := Aside0.mk (pw_below_drewN HBw.out nd); have c1n : (W.drewN nd).cell? ⟨R, 1, none⟩ = some (.bool false) := c1; clear HC HBw C1' c1; generalize W.drewN nd = W1 at HC1 HB1 c1n ⊢; have cR2 : W1.cell? ⟨R, 2, none⟩ = some (.slice At T.length ct) := (blk_cell HC1.out.1 2).trans rfl) | ((with_reducible refine gate_builtin (b := .append) (xs := #[.tmp 35, .tmp 37]) rfl ?_); at_builtin; refine Kd.R_append (Kd.int .i64) (w0 := W0) W0.heap.size rfl (.tmp 35) (.tmp 37) 25 3 (.int .i64 0) 8 rfl Try.underlying25 infoInt rfl (by decide) (by omega) (.slice At T.length ct) T (-1) [.int .i64 (-1)] (fun _ => True) (fun _ => False) rfl ?aX ?aP (fun _ hk => hk.elim) (fun _ _ => trivial) ?aO ?aB ?aS ?aL ?_; (case aX => first | rfl | (refine Eq.trans (b := .slice (some ⟨W1.heap.size, 0, none⟩) 1 1) rfl ?_; simp)); (case aP => exact rfl); (case aO => exact HC1.out.2.2.1); (case aB => exact HB1.out); (case aS => exact below_size HB1.out); (case aL => have := HLT.out; omega); intro v1 w1 ho hb hg hat; obtain ⟨A1_, c1_, rfl⟩ := Kd.R_slice ho; have hRw := blk_grown HC1.out.1 hg (Kd.R_ne HC1.out.2.2.1 HC1.out.1 (by decide)); have cw2 : w1.cell? ⟨R, 2, none⟩ = some (.slice At T.length ct) := (blk_cell hRw 2).trans rfl; have fw2 := blk_frozen hRw 2; have HC9 := Aside0.mk (RunC_T HC1.out hg ho); have HB9 := Aside0.mk (low_set hb HRB.out 2 (.slice A1_ (T ++ [(-1)]).length c1_)); clear ho hb hat hg hRw))
      go_end0
      rw [show (T ++ [(-1 : Int)]).length = T.length + 1 by simp] at HC9 HB9
      exact ⟨rfl, ⟨_, _, HC9.out⟩, HB9.out⟩
    | true =>
      have ea : atS true S = firstS false S := by unfold atS; rw [if_pos ⟨q, rfl⟩]
      rw [ea]
      clear ea q C1 hb1
      generalize firstS false S = b at *
      by_cases q2 : b = -1
      · have C2' : Aside0 (∀ W' vt', RunC W0 W' R (.slice Al A.length cl) vt' vm A S true T M → Calls Try.prog 33 #[.pointer (some ⟨R, 0, none⟩), .bool false] W' fun e w' => e = .returned (.int .i64 (-1)) ∧ ∃ n, w' = W'.drewN n) := ⟨fun W' vt' hW => by have := C2.out W' vt' hW; rw [q2] at this; exact this⟩
        subst q2
        have ed : decS S (-1) = S := by unfold decS; rw [if_pos rfl]
        rw [ed]
        clear ed C2 hb2 FX hln
        go_enter Try.func23, Try.ntmps23
        go_wp2_with (first | (go_at_call 33; (with_reducible refine (C1'.out _ _ HC.out).mono ?_); rintro e w7 ⟨rfl, nd, rfl⟩; have HC1 := Aside0.mk (RunC_drewN HC.out nd); have HB1 := Aside0.mk (pw_below_drewN HBw.out nd); have c1n : (W.drewN nd).cell? ⟨R, 1, none⟩ = some (.bool true) := c1; clear HC HBw C1' c1; generalize W.drewN nd = W1 at HC1 HB1 c1n ⊢; have cR2 : W1.cell? ⟨R, 2, none⟩ = some (.slice At T.length ct) := (blk_cell HC1.out.1 2).trans rfl) | (go_at_call 33; (with_reducible refine (C2'.out _ _ HC1.out).mono ?_); rintro e w8 ⟨rfl, nd2, rfl⟩; have n0_ := Aside0.mk (RunC_drewN HC1.out nd2); have n1_ := Aside0.mk (pw_below_drewN HB1.out nd2); clear HC1 HB1 cR2 c1n; have HC1 := n0_; have HB1 := n1_; clear n0_ n1_; generalize W1.drewN nd2 = W1 at HC1 HB1 ⊢; have cR2 : W1.cell? ⟨R, 2, none⟩ = some (.slice At T.length ct) := (blk_cell HC1.out.1 2).trans rfl) | ((with_reducible refine gate_builtin (b := .append) (xs := #[.tmp 35, .tmp 37]) rfl ?_); at_builtin; refine Kd.R_append (Kd.int .i64) (w0 := W0) W0.heap.size rfl (.tmp 35) (.tmp 37) 25 3 (.int .i64 0) 8 rfl Try.underlying25 infoInt rfl (by decide) (by omega) (.slice At T.length ct) T (-1) [.int .i64 (-1)] (fun _ => True) (fun _ => False) rfl ?aX ?aP (fun _ hk => hk.elim) (fun _ _ => trivial) ?aO ?aB ?aS ?aL ?_; (case aX => first | rfl | (refine Eq.trans (b := .slice (some ⟨W1.heap.size, 0, none⟩) 1 1) rfl ?_; simp)); (case aP => exact rfl); (case aO => exact HC1.out.2.2.1); (case aB => exact HB1.out); (case aS => exact below_size HB1.out); (case aL => have := HLT.out; omega); intro v1 w1 ho hb hg hat; obtain ⟨A1_, c1_, rfl⟩ := Kd.R_slice ho; have hRw := blk_grown HC1.out.1 hg (Kd.R_ne HC1.out.2.2.1 HC1.out.1 (by decide)); have cw2 : w1.cell? ⟨R, 2, none⟩ = some (.slice At T.length ct) := (blk_cell hRw 2).trans rfl; have fw2 := blk_frozen hRw 2; have HC9 := Aside0.mk (RunC_T HC1.out hg ho); have HB9 := Aside0.mk (low_set hb HRB.out 2 (.slice A1_ (T ++ [(-1)]).length c1_)); clear ho hb hat hg hRw))
        go_end0
        rw [show (T ++ [(-1 : Int)]).length = T.length + 1 by simp] at HC9 HB9
        exact ⟨rfl, ⟨_, _, HC9.out⟩, HB9.out⟩
      · have C2' := C2
        have hb0 : 0 ≤ b := by omega
        have hbl : b < (A.length : Int) := by omega
        obtain ⟨ad, a, x, rfl, hai, hxi, hxm, hxd, hga, FX⟩ := FX b (by omega) (by omega)
        clear hb2
        have ed : decS S b = S.set b.toNat (decSt x) := by unfold decS; rw [if_neg q2, hxd]
        rw [ed]
        have z2 : (b != -1) = true := by simpa using q2
        have hwl : wrap64 (x.left - 1) = x.left - 1 := by have := (HSB.out x hxm).2.2.2.2.2.1; simp only [wrap64]; omega
        have FX := Aside0.mk FX
        have HAI := Aside0.mk hai
        have HXI := Aside0.mk hxi
        have HGA := Aside0.mk hga
        clear hai hxi hxm hxd hga ed hln C2
        go_enter Try.func23, Try.ntmps23
        go_wp2_with (first | (go_at_call 33; (with_reducible refine (C1'.out _ _ HC.out).mono ?_); rintro e w7 ⟨rfl, nd, rfl⟩; have HC1 := Aside0.mk (RunC_drewN HC.out nd); have HB1 := Aside0.mk (pw_below_drewN HBw.out nd); have c1n : (W.drewN nd).cell? ⟨R, 1, none⟩ = some (.bool true) := c1; clear HC HBw C1' c1; generalize W.drewN nd = W1 at HC1 HB1 c1n ⊢; have cR2 : W1.cell? ⟨R, 2, none⟩ = some (.slice At T.length ct) := (blk_cell HC1.out.1 2).trans rfl) | (go_at_call 33; (with_reducible refine (C2'.out _ _ HC1.out).mono ?_); rintro e w8 ⟨rfl, nd2, rfl⟩; have n0_ := Aside0.mk (RunC_drewN HC1.out nd2); have n1_ := Aside0.mk (pw_below_drewN HB1.out nd2); clear HC1 HB1 cR2 c1n; have HC1 := n0_; have HB1 := n1_; clear n0_ n1_; generalize W1.drewN nd2 = W1 at HC1 HB1 ⊢; have cR2 : W1.cell? ⟨R, 2, none⟩ = some (.slice At T.length ct) := (blk_cell HC1.out.1 2).trans rfl; obtain ⟨cR0, hp, hX⟩ := FX.out _ _ HC1.out; have c5 : W1.cell? ⟨a, 5, none⟩ = some (.int .i64 x.left) := (blk_cell hX 5).trans rfl; have f5 := blk_frozen hX 5; have hRa := blk_ne HC1.out.1 hX (by decide); have hRb := Ne.symm hRa; have HC2 := Aside0.mk (RunC_S HC1.out HAI.out HXI.out (keep_set (keep_refl W1 a) 5 (.int .i64 (x.left - 1))) (blk_put (cs' := stC (decSt x)) hX 5 (.int .i64 (x.left - 1)) rfl)); have HB2 := Aside0.mk (low_set HB1.out HGA.out 5 (.int .i64 (x.left - 1))); clear hX HC1 HB1) | ((with_reducible refine gate_builtin (b := .append) (xs := #[.tmp 35, .tmp 37]) rfl ?_); at_builtin; refine Kd.R_append (Kd.int .i64) (w0 := W0) W0.heap.size rfl (.tmp 35) (.tmp 37) 25 3 (.int .i64 0) 8 rfl Try.underlying25 infoInt rfl (by decide) (by omega) (.slice At T.length ct) T (b) [.int .i64 (b)] (fun _ => True) (fun _ => False) rfl ?aX ?aP (fun _ hk => hk.elim) (fun _ _ => trivial) ?aO ?aB ?aS ?aL ?_; (case aX => first | rfl | (refine Eq.trans (b := .slice (some ⟨W1.heap.size, 0, none⟩) 1 1) rfl ?_; simp)); (case aP => exact rfl); (case aO => exact HC2.out.2.2.1); (case aB => exact HB2.out); (case aS => exact below_size HB2.out); (case aL => have := HLT.out; omega); intro v1 w1 ho hb hg hat; obtain ⟨A1_, c1_, rfl⟩ := Kd.R_slice ho; have hRw := blk_grown HC2.out.1 hg (Kd.R_ne HC2.out.2.2.1 HC2.out.1 (by decide)); have cw2 : w1.cell? ⟨R, 2, none⟩ = some (.slice At T.length ct) := (blk_cell hRw 2).trans rfl; have fw2 := blk_frozen hRw 2; have HC9 := Aside0.mk (RunC_T HC2.out hg ho); have HB9 := Aside0.mk (low_set hb HRB.out 2 (.slice A1_ (T ++ [(b)]).length c1_)); clear ho hb hat hg hRw))
        go_end0
        rw [show (T ++ [b]).length = T.length + 1 by simp] at HC9 HB9
        exact ⟨rfl, ⟨_, _, HC9.out⟩, HB9.out⟩
  · have z1 : (firstS true S == -1) = false := by simpa using q
    have ea : atS blue S = firstS true S := by unfold atS; rw [if_neg (by simp [q])]
    rw [ea]
    clear ea C2 hb2
    generalize firstS true S = b at *
    have hb0 : 0 ≤ b := by omega
    have hbl : b < (A.length : Int) := by omega
    obtain ⟨ad, a, x, rfl, hai, hxi, hxm, hxd, hga, FX⟩ := FX b (by omega) (by omega)
    clear hb1
    have ed : decS S b = S.set b.toNat (decSt x) := by unfold decS; rw [if_neg q, hxd]
    rw [ed]
    have z2 : (b != -1) = true := by simpa using q
    have hwl : wrap64 (x.left - 1) = x.left - 1 := by have := (HSB.out x hxm).2.2.2.2.2.1; simp only [wrap64]; omega
    have FX := Aside0.mk FX
    have HAI := Aside0.mk hai
    have HXI := Aside0.mk hxi
    have HGA := Aside0.mk hga
    clear hai hxi hxm hxd hga ed hln
    go_enter Try.func23, Try.ntmps23
    go_wp2_with (first | (go_at_call 33; (with_reducible refine (C1.out _ _ HC.out).mono ?_); rintro e w7 ⟨rfl, nd, rfl⟩; have HC1 := Aside0.mk (RunC_drewN HC.out nd); have HB1 := Aside0.mk (pw_below_drewN HBw.out nd); clear HC HBw C1 c1; generalize W.drewN nd = W1 at HC1 HB1 ⊢; have cR2 : W1.cell? ⟨R, 2, none⟩ = some (.slice At T.length ct) := (blk_cell HC1.out.1 2).trans rfl; obtain ⟨cR0, hp, hX⟩ := FX.out _ _ HC1.out; have c5 : W1.cell? ⟨a, 5, none⟩ = some (.int .i64 x.left) := (blk_cell hX 5).trans rfl; have f5 := blk_frozen hX 5; have hRa := blk_ne HC1.out.1 hX (by decide); have hRb := Ne.symm hRa; have HC2 := Aside0.mk (RunC_S HC1.out HAI.out HXI.out (keep_set (keep_refl W1 a) 5 (.int .i64 (x.left - 1))) (blk_put (cs' := stC (decSt x)) hX 5 (.int .i64 (x.left - 1)) rfl)); have HB2 := Aside0.mk (low_set HB1.out HGA.out 5 (.int .i64 (x.left - 1))); clear hX HC1 HB1) | ((with_reducible refine gate_builtin (b := .append) (xs := #[.tmp 35, .tmp 37]) rfl ?_); at_builtin; refine Kd.R_append (Kd.int .i64) (w0 := W0) W0.heap.size rfl (.tmp 35) (.tmp 37) 25 3 (.int .i64 0) 8 rfl Try.underlying25 infoInt rfl (by decide) (by omega) (.slice At T.length ct) T (b) [.int .i64 (b)] (fun _ => True) (fun _ => False) rfl ?aX ?aP (fun _ hk => hk.elim) (fun _ _ => trivial) ?aO ?aB ?aS ?aL ?_; (case aX => first | rfl | (refine Eq.trans (b := .slice (some ⟨W1.heap.size, 0, none⟩) 1 1) rfl ?_; simp)); (case aP => exact rfl); (case aO => exact HC2.out.2.2.1); (case aB => exact HB2.out); (case aS => exact below_size HB2.out); (case aL => have := HLT.out; omega); intro v1 w1 ho hb hg hat; obtain ⟨A1_, c1_, rfl⟩ := Kd.R_slice ho; have hRw := blk_grown HC2.out.1 hg (Kd.R_ne HC2.out.2.2.1 HC2.out.1 (by decide)); have cw2 : w1.cell? ⟨R, 2, none⟩ = some (.slice At T.length ct) := (blk_cell hRw 2).trans rfl; have fw2 := blk_frozen hRw 2; have HC9 := Aside0.mk (RunC_T HC2.out hg ho); have HB9 := Aside0.mk (low_set hb HRB.out 2 (.slice A1_ (T ++ [(b)]).length c1_)); clear ho hb hat hg hRw))
    go_end0
    rw [show (T ++ [b]).length = T.length + 1 by simp] at HC9 HB9
    exact ⟨rfl, ⟨_, _, HC9.out⟩, HB9.out⟩

end Go.Proofs.Ytkjboaepeecinaa.PSk
