/- Contracts of bytes.Clone and of codec's whole. -/
import Derived.Test.YtpgfecaomdioeaaDoorPCtx2
import Derived.Test.YtpgfecaomdioeaaDoorPCtEq
import Derived.Test.YtpgfecaomdioeaaDoorCodNum
import Derived.Deep.RegionHeld3
import Derived.Lib.SliceRun
namespace Go.Proofs.YtpgfecaomdioeaaDoor.PCt
open Go.RowKit Go.Proofs.YtpgfecaomdioeaaDoor.PCt Go.Proofs.YtpgfecaomdioeaaDoorW.PrintWords Go.Proofs.YtpgfecaomdioeaaDoorW.PrintLast Go.Proofs.YtpgfecaomdioeaaDoorW.PrintMore 
set_option linter.unusedVariables false
set_option linter.unusedSimpArgs false

attribute [local go_sem] max2_int min2_int max_two min_two
theorem eqN (w : World) (a : Option Addr) (n c : Nat) : (binOp .eql 27 (.slice a n c) (.slice none 0 0)).run Tryd.prog w = .ok (.bool a.isNone) w := Lib.run_eql_slice_nil w _ _ a n c 0 0 Tryd.underlying27
attribute [local go_sem] eqN
set_option maxHeartbeats 4000000 in
set_option maxRecDepth 100000 in
theorem clone_c (A : Option Addr) (c : Nat) (l : List Int) (w : World) (hr : Kd.C (Kd.int .u8) w A l.length l) (hc : l.length ≤ c) (hl : l.length ≤ 1000000000) :
    Calls Tryd.prog 38 #[.slice A l.length c] w fun e w' => ∃ v : Value, e = .returned v ∧ Kd.R (Kd.int .u8) 5 w' w.heap.size (fun _ => True) v l ∧ Below w.heap.size w w' := by
  have HB := Aside0.mk (Below.refl w.heap.size w)
  have HR := Aside0.mk hr
  cases A with
  | none =>
    have h0 : l.length = 0 := by
      by_cases h : 0 < l.length
      · obtain ⟨ad, e, _⟩ := hr.2.2 h
        cases e
      · omega
    obtain rfl : l = [] := List.eq_nil_of_length_eq_zero h0
    clear hr h0
    go_enter Tryd.func38, Tryd.ntmps38
    go_wp2
    go_ret
    exact ⟨_, rfl, Kd.R_nil _ _ _ _ _, (by repeat (first | (with_reducible first | exact HB.out | apply below_alloc | apply pw_below_drewN | apply below_drew1) | exact HB.out))⟩
  | some ad =>
    clear hr
    go_enter Tryd.func38, Tryd.ntmps38
    go_wp2_with (first | ((with_reducible refine gate_dst (N := 5) rfl ?_); refine Kd.R_lit (Kd.int .u8) _ 5 ?hg (N := 5) ?hd (xs := ([] : List Int)) (inner := []) (ok := fun _ => True) (okp := fun _ => True) ?hr ?hp (fun _ hk => hk) trivial (Below.refl _ _) (Nat.le_refl _) (by simp) ?_; (case hd => rfl); (case hg => rfl); (case hr => first | (go_simp; done) | (go_simp; rfl)); (case hp => exact (Reps.none _ _)); intro v1 w1 ho1 hb1 hg_ hnew_; clear hg_ hnew_; have HO := Aside0.mk ho1; have HB1 := Aside0.mk hb1; clear ho1 hb1) | ((with_reducible refine gate_builtin (b := .append) (xs := #[.tmp 5, .tmp 6]) rfl ?_); at_builtin; refine Kd.R_append_rows (Kd.int .u8) (w0 := w) w.heap.size rfl (.tmp 5) (.tmp 6) 27 5 (.int .u8 0) 1 rfl Tryd.underlying27 info5 rfl (by decide) (by decide) v1 [] l (some ad) l.length c (fun _ => True) (fun _ => False) rfl rfl HO.out (Kd.C_below HR.out HB1.out) (fun _ _ h => h) (fun _ hk => hk.elim) (fun _ _ => trivial) HB1.out (below_size HB1.out) (by simp only [List.length_nil]; omega) ?_; intro v2 w2 ho hb hg hat; rw [List.nil_append] at ho))
    go_ret
    exact ⟨_, rfl, ho, hb⟩
def wholeB (k : Nat) (l : List Int) : Option Bool := (codec_summed.f k (l.take (l.length - 4))).bind fun t => bytes_Equal.f t l
set_option maxHeartbeats 4000000 in
set_option maxRecDepth 100000 in
theorem whole_short (A : Option Addr) (c : Nat) (l : List Int) (w : World) (h : l.length < 4) :
    Calls Tryd.prog 21 #[.slice A l.length c] w fun e w' => e = .returned (.tuple #[.slice none 0 0, .bool false]) ∧ Below w.heap.size w w' := by
  have HB := Aside0.mk (Below.refl w.heap.size w)
  have h1 : decide ((l.length : Int) < 4) = true := decide_eq_true (by omega)
  go_enter Tryd.func21, Tryd.ntmps21
  go_wp2
  go_ret2
  exact ⟨rfl, (by repeat (first | (with_reducible first | exact HB.out | apply below_alloc | apply pw_below_drewN | apply below_drew1) | exact HB.out))⟩
set_option maxHeartbeats 4000000 in
set_option maxRecDepth 100000 in
theorem whole_c (k : Nat) (A : Option Addr) (c : Nat) (l : List Int) (w : World) (b : Bool) (hr : Kd.C (Kd.int .u8) w A l.length l) (hc : l.length ≤ c) (hl : l.length ≤ 1000000000) (h : 4 ≤ l.length) (hs : wholeB k l = some b) :
    Calls Tryd.prog 21 #[.slice A l.length c] w fun e w' => e = .returned (.tuple #[.slice A (l.length - 4) c, .bool b]) ∧ Below w.heap.size w w' := by
  have HB := Aside0.mk (Below.refl w.heap.size w)
  unfold wholeB at hs
  obtain ⟨t, ht, hs⟩ := Option.bind_eq_some_iff.1 hs
  have hT := Kd.C_take (m := l.length - 4) hr (by omega)
  have hlt : (l.take (l.length - 4)).length = l.length - 4 := by rw [List.length_take]; omega
  have CC : Aside0 (∀ W', Below w.heap.size w W' → Calls Tryd.prog 38 #[.slice A (l.length - 4) c] W' fun e w' => ∃ v : Value, e = .returned v ∧ Kd.R (Kd.int .u8) 5 w' W'.heap.size (fun _ => True) v (l.take (l.length - 4)) ∧ Below W'.heap.size W' w') :=
    ⟨fun W' hb => by have := clone_c A c (l.take (l.length - 4)) W' (Kd.C_below hT hb) (by omega) (by omega); rw [hlt] at this; exact this⟩
  have CS : Aside0 (∀ W0 W' v, Below W0.heap.size W0 W' → Kd.R (Kd.int .u8) 5 W' W0.heap.size (fun _ => True) v (l.take (l.length - 4)) → Calls Tryd.prog 27 #[v] W' fun e w' => ∃ A' c', e = .returned (.slice A' t.length c') ∧ Aside0 (Kd.C (Kd.int .u8) w' A' t.length t ∧ t.length ≤ c') ∧ Below W0.heap.size W0 w') :=
    ⟨fun W0 W' v hb hR => (codec_summed.calls k _ v _ t W0 W' hb hR ht).mono (by rintro e w' ⟨v', rfl, hR', hb', _⟩; obtain ⟨A', c', rfl⟩ := Kd.R_slice hR'; exact ⟨A', c', rfl, ⟨(Kd.R_reads' hR').2.2, (Kd.R_reads' hR').2.1⟩, hb'⟩)⟩
  have CE : Aside0 (∀ W' A' c', Below w.heap.size w W' → Aside0 (Kd.C (Kd.int .u8) W' A' t.length t ∧ t.length ≤ c') → Calls Tryd.prog 23 #[.slice A' t.length c', .slice A l.length c] W' fun e w' => e = .returned (.bool b) ∧ Below W'.heap.size W' w') :=
    ⟨fun W' A' c' hb hC => (bytes_Equal.calls A' c' t A c l b W' hC.out.1 hC.out.2 (Kd.C_below hr hb) hc hs).mono (by rintro e w' ⟨rfl, n, rfl⟩; exact ⟨rfl, pw_below_drewN (Below.refl _ _) n⟩)⟩
  have h1 : decide ((l.length : Int) < 4) = false := decide_eq_false (by omega)
  obtain ⟨m, hm⟩ : ∃ m, m = l.length - 4 := ⟨_, rfl⟩
  have h2 : (l.length : Int) = (m : Int) + 4 := by omega
  rw [← hm] at CC CS ⊢
  have h3 : (0 : Int) ≤ (m : Int) := by omega
  have h4 : (m : Int) ≤ (c : Int) := by omega
  have h5 : (l.length : Int) ≤ (c : Int) := by omega
  have h6 : (l.length : Int) - 4 = (m : Int) := by omega
  clear hs ht hT hlt hr hm h2
  go_enter Tryd.func21, Tryd.ntmps21
  go_wp2
  go_region_held3 (fun w' => Below w.heap.size w w') (first | exact below_drew HB.out | exact below_step (by assumption) hb | exact hb | (repeat (first | assumption | apply below_drew))) (first | (go_at_call 38; (with_reducible refine (CC.out _ (by assumption)).mono ?_); rintro e w1 ⟨v, rfl, hRv, hb⟩) | (go_at_call 23; (with_reducible refine (CE.out _ _ _ (by assumption) hCv).mono ?_); rintro e w3 ⟨rfl, hb⟩) | (go_at_call 27; (with_reducible refine (CS.out w _ v (by assumption) (Kd.R_lower hRv (by first | (simp; done) | exact below_size (by assumption)))).mono ?_); rintro e w2 ⟨A', c', rfl, hCv, hb⟩))
  go_wp2
  go_ret2
  refine ⟨rfl, ?_⟩
  assumption

end Go.Proofs.YtpgfecaomdioeaaDoor.PCt
