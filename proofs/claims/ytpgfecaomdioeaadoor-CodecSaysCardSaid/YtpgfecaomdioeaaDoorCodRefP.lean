/- The reference's numbers and sums, in plain lists; the contract of tocsinref8.opened. -/
-- slim
import Derived.Test.YtpgfecaomdioeaaDoorPCtx5
import Derived.Test.YtpgfecaomdioeaaDoorPCtx8
import Derived.Test.YtpgfecaomdioeaaDoorCodPj
namespace Go.Proofs.YtpgfecaomdioeaaDoor.PCt
open Go.RowKit Go.Proofs.YtpgfecaomdioeaaDoor.PCt Go.Proofs.YtpgfecaomdioeaaDoorW.PrintWords Go.Proofs.YtpgfecaomdioeaaDoorW.PrintLast Go.Proofs.YtpgfecaomdioeaaDoorW.PrintMore 
set_option linter.unusedVariables false
set_option linter.unusedSimpArgs false

theorem CodeSum_l0 (l : List Int) (hl : l.length ≤ 1000000000) : ∀ d p k x y, p + d = l.length → d < k → tocsinref8_CodeSum.l0 k l x y p = some (sumL (l.drop p) x y) := by
 intro d
 induction d with
 | zero =>
  intro p k x y hp hk
  obtain ⟨k, rfl⟩ : ∃ k', k = k' + 1 := ⟨k - 1, by omega⟩
  unfold tocsinref8_CodeSum.l0
  rw [if_neg (by omega), List.drop_of_length_le (by omega)]
  rfl
 | succ d ih =>
  intro p k x y hp hk
  obtain ⟨k, rfl⟩ : ∃ k', k = k' + 1 := ⟨k - 1, by omega⟩
  unfold tocsinref8_CodeSum.l0
  rw [rd_at l p (by omega), if_pos (by omega), if_pos (by omega), w64 ((p : Int) + 1) (by omega) (by omega), show (p : Int) + 1 = ((p + 1 : Nat) : Int) by omega]
  exact ih (p + 1) k _ _ (by omega) (by omega)
theorem CodeSum_is (l : List Int) (hl : l.length ≤ 1000000000) (k : Nat) (hk : l.length < k) : tocsinref8_CodeSum.f k l = some (sumL l 0 0) := by
 have := CodeSum_l0 l hl l.length 0 k 0 0 (by omega) hk
 rw [List.drop_zero] at this
 exact this
theorem closed_is (l : List Int) (hl : l.length ≤ 1000000) (k : Nat) (hk : l.length < k) : tocsinref8_closed.f k l = some (summedL l) := by
 unfold tocsinref8_closed.f summedL
 rw [CodeSum_is l (by omega) k hk, Option.bind_some, Option.bind_some, if_pos (by simp only [List.length_cons, List.length_nil]; omega)]
 rfl
def grpL : List Int → Nat → Int → Option (Int × Nat)
 | [], _, _ => none
 | c :: t, i, n => if 4 ≤ i then none else if 128 ≤ c then grpL t (i + 1) (n + (c % 128) * 128 ^ i) else
   if 0 < i ∧ c = 0 then none else some (n + (c % 128) * 128 ^ i, i + 1)
set_option maxHeartbeats 8000000
set_option maxRecDepth 100000
theorem opened_short (A : Option Addr) (c : Nat) (l : List Int) (W : World) (h : l.length < 4) :
  Calls Tryd.prog 29 #[.slice A l.length c] W fun e w' => e = .returned (.tuple #[.slice none 0 0, .bool false]) ∧ Below W.heap.size W w' := by
 have HB := Aside0.mk (Below.refl W.heap.size W)
 have h1 : decide ((l.length : Int) - 4 < 0) = true := decide_eq_true (by omega)
 go_enter Tryd.func29, Tryd.ntmps29
 go_wp2
 go_ret2
 exact ⟨rfl, (by repeat (first | (with_reducible first | exact HB.out | apply below_alloc | apply pw_below_drewN | apply below_drew1) | exact HB.out))⟩
theorem opened_c (A : Option Addr) (c : Nat) (l : List Int) (W : World) (hr : Kd.C (Kd.int .u8) W A l.length l) (hc : l.length ≤ c) (hl : l.length ≤ 1000000) (h : 4 ≤ l.length) (hby : ∀ x ∈ l, 0 ≤ x ∧ x < 256) :
  Calls Tryd.prog 29 #[.slice A l.length c] W fun e w' => e = .returned (.tuple #[.slice A (l.length - 4) c, .bool (wbT l)]) ∧ Below W.heap.size W w' := by
 have HB := Aside0.mk (Below.refl W.heap.size W)
 have HL : (l.take (l.length - 4)).length = l.length - 4 := by rw [List.length_take]; omega
 have HT : Kd.C (Kd.int .u8) W A (l.length - 4) (l.take (l.length - 4)) := by have h2 := Kd.C_take (m := l.length - 4) hr (by omega); rw [HL] at h2; exact h2
 have HE : Aside0 (((strOfNums (summedL (l.take (l.length - 4)))).toList == (strOfNums l).toList) = wbT l) := ⟨by rw [strOf_inj (summed_B (isB_take hby _)) hby]; rfl⟩
 obtain ⟨m, hm⟩ : ∃ m, m = l.length - 4 := ⟨_, rfl⟩
 rw [← hm] at HL HT HE ⊢
 have HR := Aside0.mk hr
 have HTt := Aside0.mk HT
 have HLt := Aside0.mk HL
 have HS := Aside0.mk (closed_is (l.take m) (by omega) (l.length + 1) (by omega))
 have h1 : decide ((l.length : Int) - 4 < 0) = false := decide_eq_false (by omega)
 have h2 : (l.length : Int) = (m : Int) + 4 := by omega
 have h3 : (0 : Int) ≤ (m : Int) := by omega
 have h4 : (m : Int) ≤ (c : Int) := by omega
 have h5 : (l.length : Int) ≤ (c : Int) := by omega
 have h6 : (l.length : Int) - 4 = (m : Int) := by omega
 clear hr HT HL hm
 go_enter Tryd.func29, Tryd.ntmps29
 go_wp2_with (first | ((with_reducible refine gate_dst (N := 11) rfl ?_); refine Kd.R_lit (Kd.int .u8) _ 5 ?hg (N := 11) ?hd (xs := ([] : List Int)) (inner := []) (ok := fun _ => True) (okp := fun _ => True) ?hr ?hp (fun _ hk => hk) trivial (Below.refl _ _) (Nat.le_refl _) (by simp) ?_; (case hd => rfl); (case hg => rfl); (case hr => first | (go_simp; done) | (go_simp; rfl)); (case hp => exact (Reps.none _ _)); intro v1 w1 ho1 hb1 hg_ hnew_; clear hg_ hnew_; have HO := Aside0.mk ho1; have HB1 := Aside0.mk hb1; clear ho1 hb1) | ((with_reducible refine gate_builtin (b := .append) (xs := #[.tmp 11, .tmp 14]) rfl ?_); at_builtin; refine Kd.R_append_rows (Kd.int .u8) (w0 := W) W.heap.size rfl (.tmp 11) (.tmp 14) 27 5 (.int .u8 0) 1 rfl Tryd.underlying27 infoByte rfl (by decide) (by decide) v1 [] (l.take m) A m c (fun _ => True) (fun _ => False) rfl rfl HO.out (Kd.C_below HTt.out HB1.out) (fun _ _ h => h) (fun _ hk => hk.elim) (fun _ _ => trivial) HB1.out (below_size HB1.out) (by simp only [List.length_nil]; omega) ?_; intro v2 w2 ho hb hg hat; rw [List.nil_append] at ho; have HO2 := Aside0.mk ho; have HB2 := Aside0.mk hb; clear ho hb hg hat) | (go_at_call 34; (with_reducible refine (tocsinref8_closed.calls (l.length + 1) _ _ (l.take m) (summedL (l.take m)) W _ HB2.out HO2.out HS.out).mono ?_); rintro e w3 ⟨v3, rfl, ho, hb, hk⟩; have HO3 := Aside0.mk ho; have HB3 := Aside0.mk hb; clear ho hb hk))
 obtain ⟨A3, c3, rfl⟩ := Kd.R_slice HO3.out
 have hcv1 := Kd.C_string (P := Tryd.prog) (A := A3) (c := c3) Tryd.underlying27 Tryd.underlying5 Tryd.underlying9 (Kd.C_drew (Kd.R_reads' HO3.out).2.2)
 have hcv2 := Kd.C_string (P := Tryd.prog) (A := A) (c := c) Tryd.underlying27 Tryd.underlying5 Tryd.underlying9 (Kd.C_drew (Kd.C_below HR.out HB3.out))
 have HB := Aside0.mk (below_drew HB3.out)
 have he := HE.out
 clear HB1 HB2 HB3 HO HO2 HO3 HE
 go_upto_region 5 with (fail)
 generalize summedL (l.take m) = sm at *
 refine start_ (n := 10) (S := fun w' => (convert 27 9 (.slice A3 sm.length c3)).run Tryd.prog w' = .ok (.string (strOfNums sm)) w' ∧ (convert 27 9 (.slice A l.length c)).run Tryd.prog w' = .ok (.string (strOfNums l)) w') (ds := []) #[false, false, false, false, false, false, false, false, false, false] (by kernel_rfl) rfl rfl ⟨hcv1, hcv2⟩ (fun hHeld => ?_)
 refine pure_ (i := 0) (N := some 17) (v := ?_) (a' := ?_) #[true, false, false, false, false, false, false, false, false, false] rfl rfl (by kernel_rfl) (fun _ _ _ h => h) (Or.inl ⟨by rfl, ?_⟩) ?_ ?_
 rotate_left
 ·intro w'
  go_simp
  with_reducible rfl
 rotate_left
 ·simp only [Act.put, List.setIfInBounds_toArray, List.set_cons_zero, List.set_cons_succ, i64_w, i32_w]
  rfl
 refine pure_ (i := 1) (N := some 18) (v := ?_) (a' := ?_) #[true, true, false, false, false, false, false, false, false, false] rfl rfl (by kernel_rfl) (fun _ _ _ h => h) (Or.inl ⟨by rfl, ?_⟩) ?_ ?_
 rotate_left
 ·intro w'
  go_simp
  with_reducible rfl
 rotate_left
 ·simp only [Act.put, List.setIfInBounds_toArray, List.set_cons_zero, List.set_cons_succ, i64_w, i32_w]
  rfl
 refine pure_ (i := 2) (N := some 19) (v := ?_) (a' := ?_) #[true, true, true, false, false, false, false, false, false, false] rfl rfl (by kernel_rfl) (fun _ _ _ h => h) (Or.inl ⟨by rfl, ?_⟩) ?_ ?_
 rotate_left
 ·intro w'
  go_simp
  with_reducible rfl
 rotate_left
 ·simp only [Act.put, List.setIfInBounds_toArray, List.set_cons_zero, List.set_cons_succ, i64_w, i32_w]
  rfl
 refine pure_ (i := 3) (N := some 20) (v := ?_) (a' := ?_) #[true, true, true, true, false, false, false, false, false, false] rfl rfl (by kernel_rfl) (fun _ _ _ h => h) (Or.inl ⟨by rfl, ?_⟩) ?_ ?_
 rotate_left
 ·intro w'
  go_simp
  with_reducible rfl
 rotate_left
 ·simp only [Act.put, List.setIfInBounds_toArray, List.set_cons_zero, List.set_cons_succ, i64_w, i32_w]
  rfl
 refine pure_ (i := 5) (N := some 22) (v := ?_) (a' := ?_) #[true, true, true, true, false, true, false, false, false, false] rfl rfl (by kernel_rfl) (fun _ _ _ h => h) (Or.inl ⟨by rfl, ?_⟩) ?_ ?_
 rotate_left
 ·intro w'
  go_simp
  with_reducible rfl
 rotate_left
 ·simp only [Act.put, List.setIfInBounds_toArray, List.set_cons_zero, List.set_cons_succ, i64_w, i32_w]
  rfl
 refine pure_ (i := 8) (N := some 2) (v := ?_) (a' := ?_) #[true, true, true, true, false, true, false, false, true, false] rfl rfl (by kernel_rfl) (fun _ _ _ h => h) (Or.inl ⟨by rfl, ?_⟩) ?_ ?_
 rotate_left
 ·intro w'
  go_simp
  with_reducible rfl
 rotate_left
 ·simp only [Act.put, List.setIfInBounds_toArray, List.set_cons_zero, List.set_cons_succ, i64_w, i32_w]
  rfl
 refine take_ (i := 4) (N := some 21) (v := ?_) (a' := ?_) #[true, true, true, true, true, true, false, false, true, false] rfl rfl (by kernel_rfl) (fun _ _ _ h => h) (Or.inl ⟨by rfl, ?_⟩) hHeld ?_ ?_
 rotate_left
 ·rintro w' ⟨s0, s1⟩
  go_simp
  with_reducible rfl
 rotate_left
 ·simp only [Act.put, List.setIfInBounds_toArray, List.set_cons_zero, List.set_cons_succ, i64_w, i32_w]
  rfl
 refine take_ (i := 6) (N := some 23) (v := ?_) (a' := ?_) #[true, true, true, true, true, true, true, false, true, false] rfl rfl (by kernel_rfl) (fun _ _ _ h => h) (Or.inl ⟨by rfl, ?_⟩) hHeld ?_ ?_
 rotate_left
 ·rintro w' ⟨s0, s1⟩
  go_simp
  with_reducible rfl
 rotate_left
 ·simp only [Act.put, List.setIfInBounds_toArray, List.set_cons_zero, List.set_cons_succ, i64_w, i32_w]
  rfl
 refine pure_ (i := 7) (N := some 24) (v := ?_) (a' := ?_) #[true, true, true, true, true, true, true, true, true, false] rfl rfl (by kernel_rfl) (fun _ _ _ h => h) (Or.inl ⟨by rfl, ?_⟩) ?_ ?_
 rotate_left
 ·intro w'
  go_simp
  with_reducible rfl
 rotate_left
 ·simp only [Act.put, List.setIfInBounds_toArray, List.set_cons_zero, List.set_cons_succ, i64_w, i32_w]
  rfl
 refine pure_ (i := 9) (N := some 3) (v := ?_) (a' := ?_) #[true, true, true, true, true, true, true, true, true, true] rfl rfl (by kernel_rfl) (fun _ _ _ h => h) (Or.inl ⟨by rfl, ?_⟩) ?_ ?_
 rotate_left
 ·intro w'
  go_simp
  with_reducible rfl
 rotate_left
 ·simp only [Act.put, List.setIfInBounds_toArray, List.set_cons_zero, List.set_cons_succ, i64_w, i32_w]
  rfl
 refine done_ (by kernel_rfl) ?_
 go_wp2
 go_ret2
 exact ⟨rfl, (by repeat (first | (with_reducible first | exact HB.out | apply below_alloc | apply pw_below_drewN | apply below_drew1) | exact HB.out))⟩

end Go.Proofs.YtpgfecaomdioeaaDoor.PCt
