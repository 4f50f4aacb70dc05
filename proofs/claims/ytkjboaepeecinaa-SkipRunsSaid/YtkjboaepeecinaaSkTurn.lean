/- The contract of skip's turn. -/
import Derived.Test.YtkjboaepeecinaaPSkx0
import Derived.Test.YtkjboaepeecinaaSkCol
namespace Go.Proofs.Ytkjboaepeecinaa.PSk
open Go.RowKit Go.Proofs.Ytkjboaepeecinaa.PSk Go.Proofs.YtkjboaepeecinaaW.PrintWords Go.Proofs.YtkjboaepeecinaaW.PrintLast Go.Proofs.YtkjboaepeecinaaW.PrintMore 
set_option linter.unusedVariables false
set_option linter.unusedSimpArgs false

theorem info33 : (Try.prog.info? 33).map (fun i => (i.zero, i.size, i.bytes)) = some (some (.agg #[(.int .i64 0), (.int .i64 0), (.bool false), (.bool false)]), 4, 24) := by kernel_rfl
theorem RunC_drew {W0 W : World} {R : Nat} {vl vt vm : Value} {A : List Nat} {S : List St} {blue : Bool} {T : List Int} {M : List S33} (h : RunC W0 W R vl vt vm A S blue T M) : RunC W0 W.drew R vl vt vm A S blue T M := by
  obtain ⟨BK, HL, HT, HM, hnd, hal, hst⟩ := h
  exact ⟨BK, Kd.R_drew HL, Kd.R_drew HT, Kd.R_drew HM, hnd, hal, hst⟩
def TurnV (W0 : World) (R : Nat) (vl vt : Value) (A : List Nat) (S : List St) (blue : Bool) (T : List Int) (M : List S33) (e : Ending) (w' : World) : Prop :=
  e = .returned (.tuple #[]) ∧ (∃ vm, RunC W0 w' R vl vt vm A S blue T M) ∧ Below W0.heap.size W0 w'
attribute [local go_sem] max2_int min2_int max_two min_two
set_option maxHeartbeats 4000000 in
set_option maxRecDepth 100000 in
theorem turn_c (W0 W : World) (R : Nat) (vl vt vm : Value) (A : List Nat) (S : List St) (blue : Bool) (T : List Int) (M : List S33) (i k : Int) (x : St) (h : RunC W0 W R vl vt vm A S blue T M) (hB : Below W0.heap.size W0 W) (hi0 : 0 ≤ i) (hi : i < A.length) (hal : A.length ≤ 1000) (hx : S[i.toNat]? = some x) (hbd : bdS x) (hnb : x.n < 1000000) (hM : M.length ≤ 1000000) (hk0 : 0 ≤ k) (hk : k ≤ 10000) (hR : W0.heap.size ≤ R) :
    Calls Try.prog 22 #[.pointer (some ⟨R, 0, none⟩), .int .i64 i, .int .i64 k] W (TurnV W0 R vl vt A (S.set i.toNat (turnS blue x k)) blue T (M ++ markS i.toNat x)) := by
  have HC := Aside0.mk h
  have HBw := Aside0.mk hB
  have HLM := Aside0.mk hM
  have HRB := Aside0.mk hR
  have HBY : Aside0 (bdS ⟨x.p, x.need, x.s, x.n + 1, k + x.p, x.need, x.red, x.reds⟩) := ⟨by obtain ⟨⟨h1, h2⟩, ⟨h3, h4⟩, h5, ⟨h6, h7⟩, h8, h9, h10⟩ := hbd; exact ⟨⟨h1, h2⟩, ⟨h3, h4⟩, h5, ⟨by show -1 ≤ x.n + 1; omega, by show x.n + 1 ≤ 1000000; omega⟩, ⟨by show 0 ≤ k + x.p; omega, by show k + x.p ≤ 1000000; omega⟩, ⟨by show -1000000 ≤ x.need; omega, by show x.need ≤ 1000000; omega⟩, h10⟩⟩
  have hw1 : wrap64 (x.n + 1) = x.n + 1 := by obtain ⟨_, _, _, ⟨h6, h7⟩, _⟩ := hbd; simp only [wrap64]; omega
  have hw2 : wrap64 (k + x.p) = k + x.p := by obtain ⟨⟨h1, h2⟩, _⟩ := hbd; simp only [wrap64]; omega
  have HXX := Aside0.mk hx
  obtain ⟨BK, HL, HT, HM, hnd, hln, hst⟩ := h
  obtain ⟨Al, cl, rfl⟩ := Kd.R_slice HL
  obtain ⟨Am, cm, rfl⟩ := Kd.R_slice HM
  have hC := (Kd.R_reads' HL).2.2
  have hcl := (Kd.R_reads' HL).2.1
  obtain ⟨ad, rfl, hp⟩ := ptr_at hC i hi0 (by omega)
  have hai : A[i.toNat]? = some (A.getD i.toNat 0) := by rw [List.getD_eq_getElem?_getD, List.getElem?_eq_getElem (by omega)]; rfl
  generalize A.getD i.toNat 0 = a at *
  have HAI := Aside0.mk hai
  have hax := (hst i.toNat a x hai hx).1
  have HGA := Aside0.mk ((hst i.toNat a x hai hx).2)
  have HX := Aside0.mk hax
  have HBD := Aside0.mk hbd
  have hRa : R ≠ a := blk_ne BK hax (by decide)
  have HRA := Aside0.mk hRa
  obtain ⟨p, need, s, n, en, left, red, reds⟩ := x
  have cR0 : W.cell? ⟨R, 0, none⟩ = some (.slice (some ad) A.length cl) := (blk_cell BK 0).trans rfl
  have cR3 : W.cell? ⟨R, 3, none⟩ = some (.slice Am M.length cm) := (blk_cell BK 3).trans rfl
  have c3 : W.cell? ⟨a, 3, none⟩ = some (.int .i64 n) := (blk_cell hax 3).trans rfl
  have c5 : W.cell? ⟨a, 5, none⟩ = some (.int .i64 left) := (blk_cell hax 5).trans rfl
  have c6 : W.cell? ⟨a, 6, none⟩ = some (.bool red) := (blk_cell hax 6).trans rfl
  clear hB hM BK HL HT HM hnd hln hst hC hai hax hbd hRa hx
  by_cases hn : 0 ≤ n
  · have z0 : decide (0 ≤ n) = true := decide_eq_true hn
    have e1 : markS i.toNat ⟨p, need, s, n, en, left, red, reds⟩ = [⟨i, n, red, left == 0⟩] := by
      unfold markS
      rw [if_pos hn, Int.toNat_of_nonneg hi0]
      by_cases hq : left = 0 <;> simp [hq]
    go_enter Try.func22, Try.ntmps22
    go_wp2
    go_quiet (fail)
    go_wp2
    have HCn := Aside0.mk (RunC_drewN HC.out nq)
    have HBn := Aside0.mk (pw_below_drewN HBw.out nq)
    have HXn := Aside0.mk (blk_drewN HX.out nq)
    have cR3n : (W.drewN nq).cell? ⟨R, 3, none⟩ = some (.slice Am M.length cm) := cR3
    have c3n : (W.drewN nq).cell? ⟨a, 3, none⟩ = some (.int .i64 n) := c3
    have c6n : (W.drewN nq).cell? ⟨a, 6, none⟩ = some (.bool red) := c6
    clear HC HBw HX cR0 cR3 c3 c5 c6
    generalize W.drewN nq = Wd at HCn HBn HXn cR3n c3n c6n ⊢
    refine start_ (n := 23) (S := fun w' => w'.cell? ⟨R, 3, none⟩ = some (.slice Am M.length cm) ∧ w'.cell? ⟨a, 3, none⟩ = some (.int .i64 n) ∧ w'.cell? ⟨a, 6, none⟩ = some (.bool red)) (ds := [22]) #[false, false, false, false, false, false, false, false, false, false, false, false, false, false, false, false, false, false, false, false, false, false, false] (by kernel_rfl) rfl rfl ⟨cR3n, c3n, c6n⟩ (fun hHeld => ?_)
    have HC := Aside0.mk (RunC_drew HCn.out)
    have HBd := Aside0.mk (below_drew HBn.out)
    have HX := Aside0.mk (blk_drew HXn.out)
    clear HCn HBn HXn cR3n c3n c6n
    generalize Wd.drew = We at HC HBd HX hHeld ⊢
    have cR3 := hHeld.1
    have c3 := hHeld.2.1
    have c6 := hHeld.2.2
    refine pure_ (i := 0) (N := some 31) (v := ?_) (a' := ?_) #[true, false, false, false, false, false, false, false, false, false, false, false, false, false, false, false, false, false, false, false, false, false, false] rfl rfl (by kernel_rfl) (fun _ _ _ h => h) (Or.inl ⟨by rfl, ?_⟩) ?_ ?_
    rotate_left
    · intro w'
      go_simp
      with_reducible rfl
    rotate_left
    · simp only [Act.put, List.setIfInBounds_toArray, List.set_cons_zero, List.set_cons_succ, i64_w, i32_w]
      rfl
    refine pure_ (i := 1) (N := some 32) (v := ?_) (a' := ?_) #[true, true, false, false, false, false, false, false, false, false, false, false, false, false, false, false, false, false, false, false, false, false, false] rfl rfl (by kernel_rfl) (fun _ _ _ h => h) (Or.inl ⟨by rfl, ?_⟩) ?_ ?_
    rotate_left
    · intro w'
      go_simp
      with_reducible rfl
    rotate_left
    · simp only [Act.put, List.setIfInBounds_toArray, List.set_cons_zero, List.set_cons_succ, i64_w, i32_w]
      rfl
    refine pure_ (i := 2) (N := some 33) (v := ?_) (a' := ?_) #[true, true, true, false, false, false, false, false, false, false, false, false, false, false, false, false, false, false, false, false, false, false, false] rfl rfl (by kernel_rfl) (fun _ _ _ h => h) (Or.inl ⟨by rfl, ?_⟩) ?_ ?_
    rotate_left
    · intro w'
      go_simp
      with_reducible rfl
    rotate_left
    · simp only [Act.put, List.setIfInBounds_toArray, List.set_cons_zero, List.set_cons_succ, i64_w, i32_w]
      rfl
    refine pure_ (i := 3) (N := some 34) (v := ?_) (a' := ?_) #[true, true, true, true, false, false, false, false, false, false, false, false, false, false, false, false, false, false, false, false, false, false, false] rfl rfl (by kernel_rfl) (fun _ _ _ h => h) (Or.inl ⟨by rfl, ?_⟩) ?_ ?_
    rotate_left
    · intro w'
      go_simp
      with_reducible rfl
    rotate_left
    · simp only [Act.put, List.setIfInBounds_toArray, List.set_cons_zero, List.set_cons_succ, i64_w, i32_w]
      rfl
    refine pure_ (i := 4) (N := some 35) (v := ?_) (a' := ?_) #[true, true, true, true, true, false, false, false, false, false, false, false, false, false, false, false, false, false, false, false, false, false, false] rfl rfl (by kernel_rfl) (fun _ _ _ h => h) (Or.inl ⟨by rfl, ?_⟩) ?_ ?_
    rotate_left
    · intro w'
      go_simp
      with_reducible rfl
    rotate_left
    · simp only [Act.put, List.setIfInBounds_toArray, List.set_cons_zero, List.set_cons_succ, i64_w, i32_w]
      rfl
    refine pure_ (i := 6) (N := some 37) (v := ?_) (a' := ?_) #[true, true, true, true, true, false, true, false, false, false, false, false, false, false, false, false, false, false, false, false, false, false, false] rfl rfl (by kernel_rfl) (fun _ _ _ h => h) (Or.inl ⟨by rfl, ?_⟩) ?_ ?_
    rotate_left
    · intro w'
      go_simp
      with_reducible rfl
    rotate_left
    · simp only [Act.put, List.setIfInBounds_toArray, List.set_cons_zero, List.set_cons_succ, i64_w, i32_w]
      rfl
    refine pure_ (i := 7) (N := some 38) (v := ?_) (a' := ?_) #[true, true, true, true, true, false, true, true, false, false, false, false, false, false, false, false, false, false, false, false, false, false, false] rfl rfl (by kernel_rfl) (fun _ _ _ h => h) (Or.inl ⟨by rfl, ?_⟩) ?_ ?_
    rotate_left
    · intro w'
      go_simp
      with_reducible rfl
    rotate_left
    · simp only [Act.put, List.setIfInBounds_toArray, List.set_cons_zero, List.set_cons_succ, i64_w, i32_w]
      rfl
    refine pure_ (i := 8) (N := some 39) (v := ?_) (a' := ?_) #[true, true, true, true, true, false, true, true, true, false, false, false, false, false, false, false, false, false, false, false, false, false, false] rfl rfl (by kernel_rfl) (fun _ _ _ h => h) (Or.inl ⟨by rfl, ?_⟩) ?_ ?_
    rotate_left
    · intro w'
      go_simp
      with_reducible rfl
    rotate_left
    · simp only [Act.put, List.setIfInBounds_toArray, List.set_cons_zero, List.set_cons_succ, i64_w, i32_w]
      rfl
    refine pure_ (i := 9) (N := some 40) (v := ?_) (a' := ?_) #[true, true, true, true, true, false, true, true, true, true, false, false, false, false, false, false, false, false, false, false, false, false, false] rfl rfl (by kernel_rfl) (fun _ _ _ h => h) (Or.inl ⟨by rfl, ?_⟩) ?_ ?_
    rotate_left
    · intro w'
      go_simp
      with_reducible rfl
    rotate_left
    · simp only [Act.put, List.setIfInBounds_toArray, List.set_cons_zero, List.set_cons_succ, i64_w, i32_w]
      rfl
    refine pure_ (i := 11) (N := some 42) (v := ?_) (a' := ?_) #[true, true, true, true, true, false, true, true, true, true, false, true, false, false, false, false, false, false, false, false, false, false, false] rfl rfl (by kernel_rfl) (fun _ _ _ h => h) (Or.inl ⟨by rfl, ?_⟩) ?_ ?_
    rotate_left
    · intro w'
      go_simp
      with_reducible rfl
    rotate_left
    · simp only [Act.put, List.setIfInBounds_toArray, List.set_cons_zero, List.set_cons_succ, i64_w, i32_w]
      rfl
    refine pure_ (i := 12) (N := some 43) (v := ?_) (a' := ?_) #[true, true, true, true, true, false, true, true, true, true, false, true, true, false, false, false, false, false, false, false, false, false, false] rfl rfl (by kernel_rfl) (fun _ _ _ h => h) (Or.inl ⟨by rfl, ?_⟩) ?_ ?_
    rotate_left
    · intro w'
      go_simp
      with_reducible rfl
    rotate_left
    · simp only [Act.put, List.setIfInBounds_toArray, List.set_cons_zero, List.set_cons_succ, i64_w, i32_w]
      rfl
    refine pure_ (i := 13) (N := some 44) (v := ?_) (a' := ?_) #[true, true, true, true, true, false, true, true, true, true, false, true, true, true, false, false, false, false, false, false, false, false, false] rfl rfl (by kernel_rfl) (fun _ _ _ h => h) (Or.inl ⟨by rfl, ?_⟩) ?_ ?_
    rotate_left
    · intro w'
      go_simp
      with_reducible rfl
    rotate_left
    · simp only [Act.put, List.setIfInBounds_toArray, List.set_cons_zero, List.set_cons_succ, i64_w, i32_w]
      rfl
    refine pure_ (i := 15) (N := some 46) (v := ?_) (a' := ?_) #[true, true, true, true, true, false, true, true, true, true, false, true, true, true, false, true, false, false, false, false, false, false, false] rfl rfl (by kernel_rfl) (fun _ _ _ h => h) (Or.inl ⟨by rfl, ?_⟩) ?_ ?_
    rotate_left
    · intro w'
      go_simp
      with_reducible rfl
    rotate_left
    · simp only [Act.put, List.setIfInBounds_toArray, List.set_cons_zero, List.set_cons_succ, i64_w, i32_w]
      rfl
    refine take_ (i := 5) (N := some 36) (v := ?_) (a' := ?_) #[true, true, true, true, true, true, true, true, true, true, false, true, true, true, false, true, false, false, false, false, false, false, false] rfl rfl (by kernel_rfl) (fun _ _ _ h => h) (Or.inl ⟨by rfl, ?_⟩) hHeld ?_ ?_
    rotate_left
    · rintro w' ⟨s0, s1, s2⟩
      go_simp
      with_reducible rfl
    rotate_left
    · simp only [Act.put, List.setIfInBounds_toArray, List.set_cons_zero, List.set_cons_succ, i64_w, i32_w]
      rfl
    refine take_ (i := 10) (N := some 41) (v := ?_) (a' := ?_) #[true, true, true, true, true, true, true, true, true, true, true, true, true, true, false, true, false, false, false, false, false, false, false] rfl rfl (by kernel_rfl) (fun _ _ _ h => h) (Or.inl ⟨by rfl, ?_⟩) hHeld ?_ ?_
    rotate_left
    · rintro w' ⟨s0, s1, s2⟩
      go_simp
      with_reducible rfl
    rotate_left
    · simp only [Act.put, List.setIfInBounds_toArray, List.set_cons_zero, List.set_cons_succ, i64_w, i32_w]
      rfl
    refine take_ (i := 14) (N := some 45) (v := ?_) (a' := ?_) #[true, true, true, true, true, true, true, true, true, true, true, true, true, true, true, true, false, false, false, false, false, false, false] rfl rfl (by kernel_rfl) (fun _ _ _ h => h) (Or.inl ⟨by rfl, ?_⟩) hHeld ?_ ?_
    rotate_left
    · rintro w' ⟨s0, s1, s2⟩
      go_simp
      with_reducible rfl
    rotate_left
    · simp only [Act.put, List.setIfInBounds_toArray, List.set_cons_zero, List.set_cons_succ, i64_w, i32_w]
      rfl
    refine pure_ (i := 16) (N := some 47) (v := ?_) (a' := ?_) #[true, true, true, true, true, true, true, true, true, true, true, true, true, true, true, true, true, false, false, false, false, false, false] rfl rfl (by kernel_rfl) (fun _ _ _ h => h) (Or.inl ⟨by rfl, ?_⟩) ?_ ?_
    rotate_left
    · intro w'
      go_simp
      with_reducible rfl
    rotate_left
    · simp only [Act.put, List.setIfInBounds_toArray, List.set_cons_zero, List.set_cons_succ, i64_w, i32_w]
      rfl
    refine one_ (i := 17) (N := some 48) #[true, true, true, true, true, true, true, true, true, true, true, true, true, true, true, true, true, true, false, false, false, false, false] rfl rfl (by kernel_rfl) (by decide) (fun K hK => ?_)
    refine value_ (w1 := ?_) (v := ?_) (by rfl) rfl ?_ ?_
    rotate_left 2
    · go_simp
      constructor
      · rfl
      · rfl
    refine hK.out _ _ ⟨(World.cell?_alloc_lt _ _ _ (World.block_lt_of_cell? _ _ cR3)).trans cR3, (World.cell?_alloc_lt _ _ _ (World.block_lt_of_cell? _ _ c3)).trans c3, (World.cell?_alloc_lt _ _ _ (World.block_lt_of_cell? _ _ c6)).trans c6⟩ (fun hHeld => ?_)
    clear hK K
    refine norm_ (a' := ?_) ?_ ?_
    rotate_left
    · show Act.put _ (some 48) _ = _
      simp only [Act.put, List.setIfInBounds_toArray, List.set_cons_zero, List.set_cons_succ, i64_w, i32_w]
      rfl
    refine one_ (i := 18) (N := some 49) #[true, true, true, true, true, true, true, true, true, true, true, true, true, true, true, true, true, true, true, false, false, false, false] rfl rfl (by kernel_rfl) (by decide) (fun K hK => ?_)
    refine Kd.R_append_step k33 (w0 := W0) W0.heap.size (by rfl) (.tmp 36) (.tmp 48) 26 33 (.agg #[(.int .i64 0), (.int .i64 0), (.bool false), (.bool false)]) 24 rfl Try.underlying26 info33 rfl (by decide) (by omega) (.slice Am M.length cm) M (⟨i, n, red, (left == 0)⟩ : S33) [.int .i64 i, .int .i64 n, .bool red, .bool (left == 0)] (fun _ => True) (fun _ => False) rfl rfl ?aP (fun _ hk => hk.elim) (fun _ _ => trivial) ?aO ?aB ?aS ?aL ?_
    (case aP => exact k33_mkM _ _ _ (⟨i, n, red, (left == 0)⟩ : S33))
    (case aO => exact HC.out.2.2.2.1)
    (case aB => exact HBd.out)
    (case aS => exact below_size HBd.out)
    (case aL => have := HLM.out; omega)
    intro v1 w6 ho hb hg hat
    obtain ⟨A1_, c1_, rfl⟩ := Kd.R_slice ho
    have hRw := blk_grown HC.out.1 hg (Kd.R_ne HC.out.2.2.2.1 HC.out.1 (by decide))
    have haw := blk_grown HX.out hg (Kd.R_ne HC.out.2.2.2.1 HX.out (by decide))
    have cw3 : w6.cell? ⟨R, 3, none⟩ = some (.slice Am M.length cm) := (blk_cell hRw 3).trans rfl
    have fw3 := blk_frozen hRw 3
    have HC1 := Aside0.mk (RunC_M HC.out hg ho)
    have HB1 := Aside0.mk hb
    clear ho hb hat
    refine hK.out _ _ ⟨(blk_cell hRw 3).trans rfl, (blk_cell haw 3).trans rfl, (blk_cell haw 6).trans rfl⟩ (fun hHeld => ?_)
    clear hK K
    refine norm_ (a' := ?_) ?_ ?_
    rotate_left
    · show Act.put _ (some 49) _ = _
      simp only [Act.put, List.setIfInBounds_toArray, List.set_cons_zero, List.set_cons_succ, i64_w, i32_w]
      rfl
    refine pure_ (i := 19) (N := some 50) (v := ?_) (a' := ?_) #[true, true, true, true, true, true, true, true, true, true, true, true, true, true, true, true, true, true, true, true, false, false, false] rfl rfl (by kernel_rfl) (fun _ _ _ h => h) (Or.inl ⟨by rfl, ?_⟩) ?_ ?_
    rotate_left
    · intro w'
      go_simp
      with_reducible rfl
    rotate_left
    · simp only [Act.put, List.setIfInBounds_toArray, List.set_cons_zero, List.set_cons_succ, i64_w, i32_w]
      rfl
    refine pure_ (i := 20) (N := some 51) (v := ?_) (a' := ?_) #[true, true, true, true, true, true, true, true, true, true, true, true, true, true, true, true, true, true, true, true, true, false, false] rfl rfl (by kernel_rfl) (fun _ _ _ h => h) (Or.inl ⟨by rfl, ?_⟩) ?_ ?_
    rotate_left
    · intro w'
      go_simp
      with_reducible rfl
    rotate_left
    · simp only [Act.put, List.setIfInBounds_toArray, List.set_cons_zero, List.set_cons_succ, i64_w, i32_w]
      rfl
    refine pure_ (i := 21) (N := some 52) (v := ?_) (a' := ?_) #[true, true, true, true, true, true, true, true, true, true, true, true, true, true, true, true, true, true, true, true, true, true, false] rfl rfl (by kernel_rfl) (fun _ _ _ h => h) (Or.inl ⟨by rfl, ?_⟩) ?_ ?_
    rotate_left
    · intro w'
      go_simp
      with_reducible rfl
    rotate_left
    · simp only [Act.put, List.setIfInBounds_toArray, List.set_cons_zero, List.set_cons_succ, i64_w, i32_w]
      rfl
    refine last_ (i := 22) (N := none) #[true, true, true, true, true, true, true, true, true, true, true, true, true, true, true, true, true, true, true, true, true, true, true] rfl rfl (by kernel_rfl) (by decide) (fun K hK => ?_)
    refine skip_ (w1 := ?_) (by rfl) rfl ?_ ?_
    rotate_left
    · go_simp
      rfl
    refine hK.out _ _ ?_
    clear hK K
    refine done_ (by kernel_rfl) ?_
    have HB2 := Aside0.mk (low_set HB1.out HRB.out 3 (.slice A1_ (M.length + 1) c1_))
    rw [show (M ++ [(⟨i, n, red, left == 0⟩ : S33)]).length = M.length + 1 by simp] at HC1
    clear HC HBd HX hRw haw cw3 fw3 hg hHeld HB1 cR3 c3 c6
    generalize w6.setCell ⟨R, 3, none⟩ (.slice A1_ (M.length + 1) c1_) = W1 at HC1 HB2 ⊢
    rw [← e1] at HC1
    have EM : metS ⟨p, need, s, n, en, left, red, reds⟩ = (left == 0) := by unfold metS; by_cases hq : left = 0 <;> simp [hq, hn]
    have EW : wasS ⟨p, need, s, n, en, left, red, reds⟩ = !red := by unfold wasS; simp [hn]
    have HX1 := Aside0.mk (HC1.out.2.2.2.2.2.2 i.toNat a _ HAI.out HXX.out).1
    have cR1 : W1.cell? ⟨R, 1, none⟩ = some (.bool blue) := (blk_cell HC1.out.1 1).trans rfl
    have g3 : W1.cell? ⟨a, 3, none⟩ = some (.int .i64 n) := (blk_cell HX1.out 3).trans rfl
    have f3 := blk_frozen HX1.out 3
    go_wp2
    have HX2 := Aside0.mk (blk_put (cs' := stC ⟨p, need, s, n + 1, en, left, red, reds⟩) HX1.out 3 (.int .i64 (n + 1)) rfl)
    have HK2 := Aside0.mk (keep_set (keep_refl W1 a) 3 (.int .i64 (n + 1)))
    have HB3 := Aside0.mk (low_set HB2.out HGA.out 3 (.int .i64 (n + 1)))
    clear g3 f3 HX1
    generalize W1.setCell ⟨a, 3, none⟩ (.int .i64 (n + 1)) = Wd at HX2 HK2 HB3 ⊢
    have d0 : Wd.cell? ⟨a, 0, none⟩ = some (.int .i64 p) := (blk_cell HX2.out 0).trans rfl
    have d1 : Wd.cell? ⟨a, 1, none⟩ = some (.int .i64 need) := (blk_cell HX2.out 1).trans rfl
    refine start_ (n := 20) (S := fun w' => w'.cell? ⟨a, 0, none⟩ = some (.int .i64 p) ∧ w'.cell? ⟨a, 1, none⟩ = some (.int .i64 need)) (ds := [16, 19]) #[false, false, false, false, false, false, false, false, false, false, false, false, false, false, false, false, false, false, false, false] (by kernel_rfl) rfl rfl ⟨d0, d1⟩ (fun hHeld => ?_)
    have n0_ := Aside0.mk (blk_drew HX2.out)
    have n1_ := Aside0.mk (keep_drewN HK2.out 1)
    have n2_ := Aside0.mk (below_drew HB3.out)
    clear HX2 HK2 HB3
    have HX2 := n0_
    have HK2 : Aside0 (KeepBut W1 Wd.drew a none) := ⟨n1_.out⟩
    have HB3 := n2_
    clear n0_ n1_ n2_ d0 d1
    generalize Wd.drew = W2 at HX2 HK2 HB3 hHeld ⊢
    have d0 := hHeld.1
    have d1 := hHeld.2
    refine pure_ (i := 0) (N := some 60) (v := ?_) (a' := ?_) #[true, false, false, false, false, false, false, false, false, false, false, false, false, false, false, false, false, false, false, false] rfl rfl (by kernel_rfl) (fun _ _ _ h => h) (Or.inl ⟨by rfl, ?_⟩) ?_ ?_
    rotate_left
    · intro w'
      go_simp
      with_reducible rfl
    rotate_left
    · simp only [Act.put, List.setIfInBounds_toArray, List.set_cons_zero, List.set_cons_succ, i64_w, i32_w]
      rfl
    refine pure_ (i := 1) (N := some 61) (v := ?_) (a' := ?_) #[true, true, false, false, false, false, false, false, false, false, false, false, false, false, false, false, false, false, false, false] rfl rfl (by kernel_rfl) (fun _ _ _ h => h) (Or.inl ⟨by rfl, ?_⟩) ?_ ?_
    rotate_left
    · intro w'
      go_simp
      with_reducible rfl
    rotate_left
    · simp only [Act.put, List.setIfInBounds_toArray, List.set_cons_zero, List.set_cons_succ, i64_w, i32_w]
      rfl
    refine pure_ (i := 2) (N := some 62) (v := ?_) (a' := ?_) #[true, true, true, false, false, false, false, false, false, false, false, false, false, false, false, false, false, false, false, false] rfl rfl (by kernel_rfl) (fun _ _ _ h => h) (Or.inl ⟨by rfl, ?_⟩) ?_ ?_
    rotate_left
    · intro w'
      go_simp
      with_reducible rfl
    rotate_left
    · simp only [Act.put, List.setIfInBounds_toArray, List.set_cons_zero, List.set_cons_succ, i64_w, i32_w]
      rfl
    refine pure_ (i := 3) (N := some 63) (v := ?_) (a' := ?_) #[true, true, true, true, false, false, false, false, false, false, false, false, false, false, false, false, false, false, false, false] rfl rfl (by kernel_rfl) (fun _ _ _ h => h) (Or.inl ⟨by rfl, ?_⟩) ?_ ?_
    rotate_left
    · intro w'
      go_simp
      with_reducible rfl
    rotate_left
    · simp only [Act.put, List.setIfInBounds_toArray, List.set_cons_zero, List.set_cons_succ, i64_w, i32_w]
      rfl
    refine pure_ (i := 4) (N := some 64) (v := ?_) (a' := ?_) #[true, true, true, true, true, false, false, false, false, false, false, false, false, false, false, false, false, false, false, false] rfl rfl (by kernel_rfl) (fun _ _ _ h => h) (Or.inl ⟨by rfl, ?_⟩) ?_ ?_
    rotate_left
    · intro w'
      go_simp
      with_reducible rfl
    rotate_left
    · simp only [Act.put, List.setIfInBounds_toArray, List.set_cons_zero, List.set_cons_succ, i64_w, i32_w]
      rfl
    refine pure_ (i := 5) (N := some 65) (v := ?_) (a' := ?_) #[true, true, true, true, true, true, false, false, false, false, false, false, false, false, false, false, false, false, false, false] rfl rfl (by kernel_rfl) (fun _ _ _ h => h) (Or.inl ⟨by rfl, ?_⟩) ?_ ?_
    rotate_left
    · intro w'
      go_simp
      with_reducible rfl
    rotate_left
    · simp only [Act.put, List.setIfInBounds_toArray, List.set_cons_zero, List.set_cons_succ, i64_w, i32_w]
      rfl
    refine pure_ (i := 6) (N := some 66) (v := ?_) (a' := ?_) #[true, true, true, true, true, true, true, false, false, false, false, false, false, false, false, false, false, false, false, false] rfl rfl (by kernel_rfl) (fun _ _ _ h => h) (Or.inl ⟨by rfl, ?_⟩) ?_ ?_
    rotate_left
    · intro w'
      go_simp
      with_reducible rfl
    rotate_left
    · simp only [Act.put, List.setIfInBounds_toArray, List.set_cons_zero, List.set_cons_succ, i64_w, i32_w]
      rfl
    refine pure_ (i := 9) (N := some 69) (v := ?_) (a' := ?_) #[true, true, true, true, true, true, true, false, false, true, false, false, false, false, false, false, false, false, false, false] rfl rfl (by kernel_rfl) (fun _ _ _ h => h) (Or.inl ⟨by rfl, ?_⟩) ?_ ?_
    rotate_left
    · intro w'
      go_simp
      with_reducible rfl
    rotate_left
    · simp only [Act.put, List.setIfInBounds_toArray, List.set_cons_zero, List.set_cons_succ, i64_w, i32_w]
      rfl
    refine pure_ (i := 10) (N := some 70) (v := ?_) (a' := ?_) #[true, true, true, true, true, true, true, false, false, true, true, false, false, false, false, false, false, false, false, false] rfl rfl (by kernel_rfl) (fun _ _ _ h => h) (Or.inl ⟨by rfl, ?_⟩) ?_ ?_
    rotate_left
    · intro w'
      go_simp
      with_reducible rfl
    rotate_left
    · simp only [Act.put, List.setIfInBounds_toArray, List.set_cons_zero, List.set_cons_succ, i64_w, i32_w]
      rfl
    refine pure_ (i := 11) (N := some 71) (v := ?_) (a' := ?_) #[true, true, true, true, true, true, true, false, false, true, true, true, false, false, false, false, false, false, false, false] rfl rfl (by kernel_rfl) (fun _ _ _ h => h) (Or.inl ⟨by rfl, ?_⟩) ?_ ?_
    rotate_left
    · intro w'
      go_simp
      with_reducible rfl
    rotate_left
    · simp only [Act.put, List.setIfInBounds_toArray, List.set_cons_zero, List.set_cons_succ, i64_w, i32_w]
      rfl
    refine pure_ (i := 12) (N := some 72) (v := ?_) (a' := ?_) #[true, true, true, true, true, true, true, false, false, true, true, true, true, false, false, false, false, false, false, false] rfl rfl (by kernel_rfl) (fun _ _ _ h => h) (Or.inl ⟨by rfl, ?_⟩) ?_ ?_
    rotate_left
    · intro w'
      go_simp
      with_reducible rfl
    rotate_left
    · simp only [Act.put, List.setIfInBounds_toArray, List.set_cons_zero, List.set_cons_succ, i64_w, i32_w]
      rfl
    refine take_ (i := 7) (N := some 67) (v := ?_) (a' := ?_) #[true, true, true, true, true, true, true, true, false, true, true, true, true, false, false, false, false, false, false, false] rfl rfl (by kernel_rfl) (fun _ _ _ h => h) (Or.inl ⟨by rfl, ?_⟩) hHeld ?_ ?_
    rotate_left
    · rintro w' ⟨s0, s1⟩
      go_simp
      with_reducible rfl
    rotate_left
    · simp only [Act.put, List.setIfInBounds_toArray, List.set_cons_zero, List.set_cons_succ, i64_w, i32_w]
      rfl
    refine pure_ (i := 8) (N := some 68) (v := ?_) (a' := ?_) #[true, true, true, true, true, true, true, true, true, true, true, true, true, false, false, false, false, false, false, false] rfl rfl (by kernel_rfl) (fun _ _ _ h => h) (Or.inl ⟨by rfl, ?_⟩) ?_ ?_
    rotate_left
    · intro w'
      go_simp
      with_reducible rfl
    rotate_left
    · simp only [Act.put, List.setIfInBounds_toArray, List.set_cons_zero, List.set_cons_succ, i64_w, i32_w]
      rfl
    refine take_ (i := 13) (N := some 73) (v := ?_) (a' := ?_) #[true, true, true, true, true, true, true, true, true, true, true, true, true, true, false, false, false, false, false, false] rfl rfl (by kernel_rfl) (fun _ _ _ h => h) (Or.inl ⟨by rfl, ?_⟩) hHeld ?_ ?_
    rotate_left
    · rintro w' ⟨s0, s1⟩
      go_simp
      with_reducible rfl
    rotate_left
    · simp only [Act.put, List.setIfInBounds_toArray, List.set_cons_zero, List.set_cons_succ, i64_w, i32_w]
      rfl
    refine pure_ (i := 14) (N := some 74) (v := ?_) (a' := ?_) #[true, true, true, true, true, true, true, true, true, true, true, true, true, true, true, false, false, false, false, false] rfl rfl (by kernel_rfl) (fun _ _ _ h => h) (Or.inl ⟨by rfl, ?_⟩) ?_ ?_
    rotate_left
    · intro w'
      go_simp
      with_reducible rfl
    rotate_left
    · simp only [Act.put, List.setIfInBounds_toArray, List.set_cons_zero, List.set_cons_succ, i64_w, i32_w]
      rfl
    refine pure_ (i := 15) (N := some 75) (v := ?_) (a' := ?_) #[true, true, true, true, true, true, true, true, true, true, true, true, true, true, true, true, false, false, false, false] rfl rfl (by kernel_rfl) (fun _ _ _ h => h) (Or.inl ⟨by rfl, ?_⟩) ?_ ?_
    rotate_left
    · intro w'
      go_simp
      with_reducible rfl
    rotate_left
    · simp only [Act.put, List.setIfInBounds_toArray, List.set_cons_zero, List.set_cons_succ, i64_w, i32_w]
      rfl
    refine last_ (i := 16) (N := none) #[true, true, true, true, true, true, true, true, true, true, true, true, true, true, true, true, true, false, false, false] rfl rfl (by kernel_rfl) (by decide) (fun K hK => ?_)
    have cw4 : W2.cell? ⟨a, 4, none⟩ = some (.int .i64 en) := (blk_cell HX2.out 4).trans rfl
    have fw4 := blk_frozen HX2.out 4
    have cw5 : W2.cell? ⟨a, 5, none⟩ = some (.int .i64 left) := (blk_cell HX2.out 5).trans rfl
    have fw5 := blk_frozen HX2.out 5
    refine skip_ (w1 := ?_) (by rfl) rfl ?_ ?_
    rotate_left
    · go_simp
      rfl
    refine hK.out _ _ ?_
    clear hK K
    refine pure_ (i := 17) (N := some 76) (v := ?_) (a' := ?_) #[true, true, true, true, true, true, true, true, true, true, true, true, true, true, true, true, true, true, false, false] rfl rfl (by kernel_rfl) (fun _ _ _ h => h) (Or.inl ⟨by rfl, ?_⟩) ?_ ?_
    rotate_left
    · intro w'
      go_simp
      with_reducible rfl
    rotate_left
    · simp only [Act.put, List.setIfInBounds_toArray, List.set_cons_zero, List.set_cons_succ, i64_w, i32_w]
      rfl
    refine pure_ (i := 18) (N := some 77) (v := ?_) (a' := ?_) #[true, true, true, true, true, true, true, true, true, true, true, true, true, true, true, true, true, true, true, false] rfl rfl (by kernel_rfl) (fun _ _ _ h => h) (Or.inl ⟨by rfl, ?_⟩) ?_ ?_
    rotate_left
    · intro w'
      go_simp
      with_reducible rfl
    rotate_left
    · simp only [Act.put, List.setIfInBounds_toArray, List.set_cons_zero, List.set_cons_succ, i64_w, i32_w]
      rfl
    refine last_ (i := 19) (N := none) #[true, true, true, true, true, true, true, true, true, true, true, true, true, true, true, true, true, true, true, true] rfl rfl (by kernel_rfl) (by decide) (fun K hK => ?_)
    refine skip_ (w1 := ?_) (by rfl) rfl ?_ ?_
    rotate_left
    · go_simp
      rfl
    refine hK.out _ _ ?_
    clear hK K
    refine done_ (by kernel_rfl) ?_
    have HX3 := Aside0.mk (blk_put (cs' := stC ⟨p, need, s, n + 1, k + p, need, red, reds⟩) (blk_put (cs' := stC ⟨p, need, s, n + 1, k + p, left, red, reds⟩) HX2.out 4 (.int .i64 (k + p)) rfl) 5 (.int .i64 need) rfl)
    have HK3 := Aside0.mk (keep_set (keep_set HK2.out 4 (.int .i64 (k + p))) 5 (.int .i64 need))
    have HB4 := Aside0.mk (low_set (low_set HB3.out HGA.out 4 (.int .i64 (k + p))) HGA.out 5 (.int .i64 need))
    clear HX2 HK2 HB3 d0 d1 cw4 fw4 cw5 fw5
    generalize (W2.setCell ⟨a, 4, none⟩ (.int .i64 (k + p))).setCell ⟨a, 5, none⟩ (.int .i64 need) = W3 at HX3 HK3 HB4 ⊢
    have HCC := Aside0.mk (colour_c W0 W3 R a ⟨p, need, s, n + 1, k + p, need, red, reds⟩ blue (left == 0) (!red) ((blk_cell (HK3.out.blk HC1.out.1 HRA.out (by simp)) 1).trans rfl) HX3.out HRA.out HB4.out HGA.out HBY.out)
    go_wp2_with (first | (go_at_call 32; (with_reducible refine (HCC.out).mono ?_); rintro e w7 ⟨rfl, hx5, hk5, hb5⟩; have hs6 : w7.cell? ⟨a, 6, none⟩ = some (.bool red) := (blk_cell hx5 6).trans rfl; have hf6 := blk_frozen hx5 6; have HX5 := Aside0.mk hx5; have HK5 := Aside0.mk hk5; have HB5 := Aside0.mk hb5; clear hx5 hk5 hb5))
    go_end0
    refine ⟨rfl, ?_, low_set HB5.out HGA.out 6 _⟩
    have e2 : turnS blue ⟨p, need, s, n, en, left, red, reds⟩ k = ⟨p, need, s, n + 1, k + p, need, (colR blue s (n + 1) reds (left == 0) (!red)).1, (colR blue s (n + 1) reds (left == 0) (!red)).2⟩ := by
      unfold turnS
      rw [EM, EW]
    rw [e2]
    exact ⟨_, RunC_S HC1.out HAI.out HXX.out (keep_set (HK3.out.trans HK5.out (.inl rfl)) 6 _) (blk_put HX5.out 6 _ rfl)⟩
  · have z0 : decide (0 ≤ n) = false := decide_eq_false hn
    have e1 : markS i.toNat ⟨p, need, s, n, en, left, red, reds⟩ = [] := by unfold markS; rw [if_neg hn]
    go_enter Try.func22, Try.ntmps22
    rw [e1, List.append_nil]
    have HC1 := HC
    have HB2 := HBw
    clear HC HBw HX cR3 c5 c6
    have EM : metS ⟨p, need, s, n, en, left, red, reds⟩ = false := by unfold metS; simp [hn]
    have EW : wasS ⟨p, need, s, n, en, left, red, reds⟩ = false := by unfold wasS; simp [hn]
    clear c3
    generalize W = W1 at *
    have HX1 := Aside0.mk (HC1.out.2.2.2.2.2.2 i.toNat a _ HAI.out HXX.out).1
    have cR1 : W1.cell? ⟨R, 1, none⟩ = some (.bool blue) := (blk_cell HC1.out.1 1).trans rfl
    have g3 : W1.cell? ⟨a, 3, none⟩ = some (.int .i64 n) := (blk_cell HX1.out 3).trans rfl
    have f3 := blk_frozen HX1.out 3
    go_wp2
    have HX2 := Aside0.mk (blk_put (cs' := stC ⟨p, need, s, n + 1, en, left, red, reds⟩) HX1.out 3 (.int .i64 (n + 1)) rfl)
    have HK2 := Aside0.mk (keep_set (keep_refl W1 a) 3 (.int .i64 (n + 1)))
    have HB3 := Aside0.mk (low_set HB2.out HGA.out 3 (.int .i64 (n + 1)))
    clear g3 f3 HX1
    generalize W1.setCell ⟨a, 3, none⟩ (.int .i64 (n + 1)) = Wd at HX2 HK2 HB3 ⊢
    have d0 : Wd.cell? ⟨a, 0, none⟩ = some (.int .i64 p) := (blk_cell HX2.out 0).trans rfl
    have d1 : Wd.cell? ⟨a, 1, none⟩ = some (.int .i64 need) := (blk_cell HX2.out 1).trans rfl
    refine start_ (n := 20) (S := fun w' => w'.cell? ⟨a, 0, none⟩ = some (.int .i64 p) ∧ w'.cell? ⟨a, 1, none⟩ = some (.int .i64 need)) (ds := [16, 19]) #[false, false, false, false, false, false, false, false, false, false, false, false, false, false, false, false, false, false, false, false] (by kernel_rfl) rfl rfl ⟨d0, d1⟩ (fun hHeld => ?_)
    have n0_ := Aside0.mk (blk_drew HX2.out)
    have n1_ := Aside0.mk (keep_drewN HK2.out 1)
    have n2_ := Aside0.mk (below_drew HB3.out)
    clear HX2 HK2 HB3
    have HX2 := n0_
    have HK2 : Aside0 (KeepBut W1 Wd.drew a none) := ⟨n1_.out⟩
    have HB3 := n2_
    clear n0_ n1_ n2_ d0 d1
    generalize Wd.drew = W2 at HX2 HK2 HB3 hHeld ⊢
    have d0 := hHeld.1
    have d1 := hHeld.2
    refine pure_ (i := 0) (N := some 60) (v := ?_) (a' := ?_) #[true, false, false, false, false, false, false, false, false, false, false, false, false, false, false, false, false, false, false, false] rfl rfl (by kernel_rfl) (fun _ _ _ h => h) (Or.inl ⟨by rfl, ?_⟩) ?_ ?_
    rotate_left
    · intro w'
      go_simp
      with_reducible rfl
    rotate_left
    · simp only [Act.put, List.setIfInBounds_toArray, List.set_cons_zero, List.set_cons_succ, i64_w, i32_w]
      rfl
    refine pure_ (i := 1) (N := some 61) (v := ?_) (a' := ?_) #[true, true, false, false, false, false, false, false, false, false, false, false, false, false, false, false, false, false, false, false] rfl rfl (by kernel_rfl) (fun _ _ _ h => h) (Or.inl ⟨by rfl, ?_⟩) ?_ ?_
    rotate_left
    · intro w'
      go_simp
      with_reducible rfl
    rotate_left
    · simp only [Act.put, List.setIfInBounds_toArray, List.set_cons_zero, List.set_cons_succ, i64_w, i32_w]
      rfl
    refine pure_ (i := 2) (N := some 62) (v := ?_) (a' := ?_) #[true, true, true, false, false, false, false, false, false, false, false, false, false, false, false, false, false, false, false, false] rfl rfl (by kernel_rfl) (fun _ _ _ h => h) (Or.inl ⟨by rfl, ?_⟩) ?_ ?_
    rotate_left
    · intro w'
      go_simp
      with_reducible rfl
    rotate_left
    · simp only [Act.put, List.setIfInBounds_toArray, List.set_cons_zero, List.set_cons_succ, i64_w, i32_w]
      rfl
    refine pure_ (i := 3) (N := some 63) (v := ?_) (a' := ?_) #[true, true, true, true, false, false, false, false, false, false, false, false, false, false, false, false, false, false, false, false] rfl rfl (by kernel_rfl) (fun _ _ _ h => h) (Or.inl ⟨by rfl, ?_⟩) ?_ ?_
    rotate_left
    · intro w'
      go_simp
      with_reducible rfl
    rotate_left
    · simp only [Act.put, List.setIfInBounds_toArray, List.set_cons_zero, List.set_cons_succ, i64_w, i32_w]
      rfl
    refine pure_ (i := 4) (N := some 64) (v := ?_) (a' := ?_) #[true, true, true, true, true, false, false, false, false, false, false, false, false, false, false, false, false, false, false, false] rfl rfl (by kernel_rfl) (fun _ _ _ h => h) (Or.inl ⟨by rfl, ?_⟩) ?_ ?_
    rotate_left
    · intro w'
      go_simp
      with_reducible rfl
    rotate_left
    · simp only [Act.put, List.setIfInBounds_toArray, List.set_cons_zero, List.set_cons_succ, i64_w, i32_w]
      rfl
    refine pure_ (i := 5) (N := some 65) (v := ?_) (a' := ?_) #[true, true, true, true, true, true, false, false, false, false, false, false, false, false, false, false, false, false, false, false] rfl rfl (by kernel_rfl) (fun _ _ _ h => h) (Or.inl ⟨by rfl, ?_⟩) ?_ ?_
    rotate_left
    · intro w'
      go_simp
      with_reducible rfl
    rotate_left
    · simp only [Act.put, List.setIfInBounds_toArray, List.set_cons_zero, List.set_cons_succ, i64_w, i32_w]
      rfl
    refine pure_ (i := 6) (N := some 66) (v := ?_) (a' := ?_) #[true, true, true, true, true, true, true, false, false, false, false, false, false, false, false, false, false, false, false, false] rfl rfl (by kernel_rfl) (fun _ _ _ h => h) (Or.inl ⟨by rfl, ?_⟩) ?_ ?_
    rotate_left
    · intro w'
      go_simp
      with_reducible rfl
    rotate_left
    · simp only [Act.put, List.setIfInBounds_toArray, List.set_cons_zero, List.set_cons_succ, i64_w, i32_w]
      rfl
    refine pure_ (i := 9) (N := some 69) (v := ?_) (a' := ?_) #[true, true, true, true, true, true, true, false, false, true, false, false, false, false, false, false, false, false, false, false] rfl rfl (by kernel_rfl) (fun _ _ _ h => h) (Or.inl ⟨by rfl, ?_⟩) ?_ ?_
    rotate_left
    · intro w'
      go_simp
      with_reducible rfl
    rotate_left
    · simp only [Act.put, List.setIfInBounds_toArray, List.set_cons_zero, List.set_cons_succ, i64_w, i32_w]
      rfl
    refine pure_ (i := 10) (N := some 70) (v := ?_) (a' := ?_) #[true, true, true, true, true, true, true, false, false, true, true, false, false, false, false, false, false, false, false, false] rfl rfl (by kernel_rfl) (fun _ _ _ h => h) (Or.inl ⟨by rfl, ?_⟩) ?_ ?_
    rotate_left
    · intro w'
      go_simp
      with_reducible rfl
    rotate_left
    · simp only [Act.put, List.setIfInBounds_toArray, List.set_cons_zero, List.set_cons_succ, i64_w, i32_w]
      rfl
    refine pure_ (i := 11) (N := some 71) (v := ?_) (a' := ?_) #[true, true, true, true, true, true, true, false, false, true, true, true, false, false, false, false, false, false, false, false] rfl rfl (by kernel_rfl) (fun _ _ _ h => h) (Or.inl ⟨by rfl, ?_⟩) ?_ ?_
    rotate_left
    · intro w'
      go_simp
      with_reducible rfl
    rotate_left
    · simp only [Act.put, List.setIfInBounds_toArray, List.set_cons_zero, List.set_cons_succ, i64_w, i32_w]
      rfl
    refine pure_ (i := 12) (N := some 72) (v := ?_) (a' := ?_) #[true, true, true, true, true, true, true, false, false, true, true, true, true, false, false, false, false, false, false, false] rfl rfl (by kernel_rfl) (fun _ _ _ h => h) (Or.inl ⟨by rfl, ?_⟩) ?_ ?_
    rotate_left
    · intro w'
      go_simp
      with_reducible rfl
    rotate_left
    · simp only [Act.put, List.setIfInBounds_toArray, List.set_cons_zero, List.set_cons_succ, i64_w, i32_w]
      rfl
    refine take_ (i := 7) (N := some 67) (v := ?_) (a' := ?_) #[true, true, true, true, true, true, true, true, false, true, true, true, true, false, false, false, false, false, false, false] rfl rfl (by kernel_rfl) (fun _ _ _ h => h) (Or.inl ⟨by rfl, ?_⟩) hHeld ?_ ?_
    rotate_left
    · rintro w' ⟨s0, s1⟩
      go_simp
      with_reducible rfl
    rotate_left
    · simp only [Act.put, List.setIfInBounds_toArray, List.set_cons_zero, List.set_cons_succ, i64_w, i32_w]
      rfl
    refine pure_ (i := 8) (N := some 68) (v := ?_) (a' := ?_) #[true, true, true, true, true, true, true, true, true, true, true, true, true, false, false, false, false, false, false, false] rfl rfl (by kernel_rfl) (fun _ _ _ h => h) (Or.inl ⟨by rfl, ?_⟩) ?_ ?_
    rotate_left
    · intro w'
      go_simp
      with_reducible rfl
    rotate_left
    · simp only [Act.put, List.setIfInBounds_toArray, List.set_cons_zero, List.set_cons_succ, i64_w, i32_w]
      rfl
    refine take_ (i := 13) (N := some 73) (v := ?_) (a' := ?_) #[true, true, true, true, true, true, true, true, true, true, true, true, true, true, false, false, false, false, false, false] rfl rfl (by kernel_rfl) (fun _ _ _ h => h) (Or.inl ⟨by rfl, ?_⟩) hHeld ?_ ?_
    rotate_left
    · rintro w' ⟨s0, s1⟩
      go_simp
      with_reducible rfl
    rotate_left
    · simp only [Act.put, List.setIfInBounds_toArray, List.set_cons_zero, List.set_cons_succ, i64_w, i32_w]
      rfl
    refine pure_ (i := 14) (N := some 74) (v := ?_) (a' := ?_) #[true, true, true, true, true, true, true, true, true, true, true, true, true, true, true, false, false, false, false, false] rfl rfl (by kernel_rfl) (fun _ _ _ h => h) (Or.inl ⟨by rfl, ?_⟩) ?_ ?_
    rotate_left
    · intro w'
      go_simp
      with_reducible rfl
    rotate_left
    · simp only [Act.put, List.setIfInBounds_toArray, List.set_cons_zero, List.set_cons_succ, i64_w, i32_w]
      rfl
    refine pure_ (i := 15) (N := some 75) (v := ?_) (a' := ?_) #[true, true, true, true, true, true, true, true, true, true, true, true, true, true, true, true, false, false, false, false] rfl rfl (by kernel_rfl) (fun _ _ _ h => h) (Or.inl ⟨by rfl, ?_⟩) ?_ ?_
    rotate_left
    · intro w'
      go_simp
      with_reducible rfl
    rotate_left
    · simp only [Act.put, List.setIfInBounds_toArray, List.set_cons_zero, List.set_cons_succ, i64_w, i32_w]
      rfl
    refine last_ (i := 16) (N := none) #[true, true, true, true, true, true, true, true, true, true, true, true, true, true, true, true, true, false, false, false] rfl rfl (by kernel_rfl) (by decide) (fun K hK => ?_)
    have cw4 : W2.cell? ⟨a, 4, none⟩ = some (.int .i64 en) := (blk_cell HX2.out 4).trans rfl
    have fw4 := blk_frozen HX2.out 4
    have cw5 : W2.cell? ⟨a, 5, none⟩ = some (.int .i64 left) := (blk_cell HX2.out 5).trans rfl
    have fw5 := blk_frozen HX2.out 5
    refine skip_ (w1 := ?_) (by rfl) rfl ?_ ?_
    rotate_left
    · go_simp
      rfl
    refine hK.out _ _ ?_
    clear hK K
    refine pure_ (i := 17) (N := some 76) (v := ?_) (a' := ?_) #[true, true, true, true, true, true, true, true, true, true, true, true, true, true, true, true, true, true, false, false] rfl rfl (by kernel_rfl) (fun _ _ _ h => h) (Or.inl ⟨by rfl, ?_⟩) ?_ ?_
    rotate_left
    · intro w'
      go_simp
      with_reducible rfl
    rotate_left
    · simp only [Act.put, List.setIfInBounds_toArray, List.set_cons_zero, List.set_cons_succ, i64_w, i32_w]
      rfl
    refine pure_ (i := 18) (N := some 77) (v := ?_) (a' := ?_) #[true, true, true, true, true, true, true, true, true, true, true, true, true, true, true, true, true, true, true, false] rfl rfl (by kernel_rfl) (fun _ _ _ h => h) (Or.inl ⟨by rfl, ?_⟩) ?_ ?_
    rotate_left
    · intro w'
      go_simp
      with_reducible rfl
    rotate_left
    · simp only [Act.put, List.setIfInBounds_toArray, List.set_cons_zero, List.set_cons_succ, i64_w, i32_w]
      rfl
    refine last_ (i := 19) (N := none) #[true, true, true, true, true, true, true, true, true, true, true, true, true, true, true, true, true, true, true, true] rfl rfl (by kernel_rfl) (by decide) (fun K hK => ?_)
    refine skip_ (w1 := ?_) (by rfl) rfl ?_ ?_
    rotate_left
    · go_simp
      rfl
    refine hK.out _ _ ?_
    clear hK K
    refine done_ (by kernel_rfl) ?_
    have HX3 := Aside0.mk (blk_put (cs' := stC ⟨p, need, s, n + 1, k + p, need, red, reds⟩) (blk_put (cs' := stC ⟨p, need, s, n + 1, k + p, left, red, reds⟩) HX2.out 4 (.int .i64 (k + p)) rfl) 5 (.int .i64 need) rfl)
    have HK3 := Aside0.mk (keep_set (keep_set HK2.out 4 (.int .i64 (k + p))) 5 (.int .i64 need))
    have HB4 := Aside0.mk (low_set (low_set HB3.out HGA.out 4 (.int .i64 (k + p))) HGA.out 5 (.int .i64 need))
    clear HX2 HK2 HB3 d0 d1 cw4 fw4 cw5 fw5
    generalize (W2.setCell ⟨a, 4, none⟩ (.int .i64 (k + p))).setCell ⟨a, 5, none⟩ (.int .i64 need) = W3 at HX3 HK3 HB4 ⊢
    have HCC := Aside0.mk (colour_c W0 W3 R a ⟨p, need, s, n + 1, k + p, need, red, reds⟩ blue false false ((blk_cell (HK3.out.blk HC1.out.1 HRA.out (by simp)) 1).trans rfl) HX3.out HRA.out HB4.out HGA.out HBY.out)
    go_wp2_with (first | (go_at_call 32; (with_reducible refine (HCC.out).mono ?_); rintro e w7 ⟨rfl, hx5, hk5, hb5⟩; have hs6 : w7.cell? ⟨a, 6, none⟩ = some (.bool red) := (blk_cell hx5 6).trans rfl; have hf6 := blk_frozen hx5 6; have HX5 := Aside0.mk hx5; have HK5 := Aside0.mk hk5; have HB5 := Aside0.mk hb5; clear hx5 hk5 hb5))
    go_end0
    refine ⟨rfl, ?_, low_set HB5.out HGA.out 6 _⟩
    have e2 : turnS blue ⟨p, need, s, n, en, left, red, reds⟩ k = ⟨p, need, s, n + 1, k + p, need, (colR blue s (n + 1) reds false false).1, (colR blue s (n + 1) reds false false).2⟩ := by
      unfold turnS
      rw [EM, EW]
    rw [e2]
    exact ⟨_, RunC_S HC1.out HAI.out HXX.out (keep_set (HK3.out.trans HK5.out (.inl rfl)) 6 _) (blk_put HX5.out 6 _ rfl)⟩

end Go.Proofs.Ytkjboaepeecinaa.PSk
