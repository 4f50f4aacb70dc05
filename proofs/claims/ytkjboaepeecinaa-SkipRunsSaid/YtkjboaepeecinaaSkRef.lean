/- The contract of the reference's Run. -/
-- slim
import Derived.Test.YtkjboaepeecinaaPSkx0
import Derived.Test.YtkjboaepeecinaaSkRefK
import Derived.Test.YtkjboaepeecinaaSkDemR
import Derived.Test.YtkjboaepeecinaaSkRun
namespace Go.Proofs.Ytkjboaepeecinaa.PSk
open Go.RowKit Go.Proofs.Ytkjboaepeecinaa.PSk Go.Proofs.YtkjboaepeecinaaW.PrintWords Go.Proofs.YtkjboaepeecinaaW.PrintLast Go.Proofs.YtkjboaepeecinaaW.PrintMore Go.Proofs.Ytkjboaepeecinaa.Pure
set_option linter.unusedVariables false
set_option linter.unusedSimpArgs false

def tocsinref21_Run.f (l : List S66) (b : Bool) (t : Int) : Option (List Int × List S69 × Int) :=
 if t < 0 ∨ 10000 < t then some ([], [], 1) else
  if (holdsS (l.map qR)).2 ≠ 0 then some ([], [], (holdsS (l.map qR)).2) else
   if (holdsS (l.map qR)).1 = false then some ([], [], 9) else some ((runTo b (l.map iniR) t.toNat).T, ((runTo b (l.map iniR) t.toNat).M).map cv, 0)
theorem info69 : (Try.prog.info? 69).map (fun i => (i.zero, i.size, i.bytes)) = some (some (.agg #[(.int .i64 0), (.int .i64 0), (.bool false), (.bool false)]), 4, 24) := by kernel_rfl
theorem info68 : (Try.prog.info? 68).map (fun i => (i.zero, i.size, i.bytes)) = some (some (.agg #[(.int .i64 0), (.int .i64 0), (.int .i64 0), (.bool false), (.bool false)]), 5, 32) := by kernel_rfl
theorem getD_set {xs : List S68} {i : Nat} (h : i < xs.length) (a : S68) : (xs.set i a).getD i z68 = a := by rw [List.getD_eq_getElem?_getD, List.getElem?_set_self h]; rfl
theorem iniR_ok {t : S66} (hg : goodTB t.f0 t.f1 t.f2 = true) (b : Bool) : okS b 0 (iniR t) ∧ okB 0 (iniR t) := by
 have hb := goodTB_iff hg
 refine ⟨⟨hb.1, hb.2.2.1, ?_, by show (-1 : Int) ≤ -1; omega, ?_, by show (0 : Int) ≤ 0; omega, ?_, by show (0 : Int) ≤ 0; omega, ?_, fun _ => .inl rfl, fun _ => ⟨rfl, rfl⟩, fun hs _ => ?_, fun _ _ h => absurd rfl h⟩, ?_⟩
 ·show t.f2 = 0 ∨ 2 ≤ t.f2
  omega
 ·show (0 : Int) = (-1 + 1) * t.f0
  omega
 ·show (0 : Int) < 0 + t.f0
  omega
 ·show (0 : Int) ≤ t.f1
  omega
 ·have hs' : t.f2 ≠ 0 := hs
  exact ⟨by show 0 ≤ t.f2 - 1; omega, by show t.f2 - 1 ≤ t.f2 - 1; omega, fun _ => rfl, fun h => absurd rfl h⟩
 ·exact ⟨⟨by show 1 ≤ t.f0; omega, by show t.f0 ≤ 10000; omega⟩, ⟨by show 1 ≤ t.f1; omega, by show t.f1 ≤ 1000; omega⟩, ⟨by show 0 ≤ t.f2; omega, by show t.f2 ≤ 1000; omega⟩, ⟨by show (-1 : Int) ≤ -1; omega, by show (-1 : Int) ≤ 0 - 1; omega⟩, ⟨by show (0 : Int) ≤ 0; omega, by show (0 : Int) ≤ 0 + 10000; omega⟩, ⟨by show (0 : Int) ≤ 0; omega, by show (0 : Int) ≤ 1000; omega⟩, by show -1 - 0 ≤ t.f2 - 1; omega, by show t.f2 - 1 ≤ 1000; omega⟩
attribute [local go_sem] max2_int min2_int max_two min_two
set_option maxHeartbeats 8000000 in
set_option maxRecDepth 100000 in
theorem tocsinref21_Run.calls (A0 : Option Addr) (c0 : Nat) (l0 : List S66) (a1 : Bool) (a2 : Int) (r1 : List Int) (r2 : List S69) (r3 : Int) (w : World) (hr0 : Kd.C k66 w A0 l0.length l0) (hc0 : l0.length ≤ c0) (h : tocsinref21_Run.f l0 a1 a2 = some (r1, r2, r3)) :
  Calls Try.prog 15 #[.slice A0 l0.length c0, .bool a1, .int .i64 a2] w fun e w' => ∃ v0_ v1_ : Value, e = .returned (.tuple #[.agg #[v0_, v1_], .int .i64 r3]) ∧ Kd.R (Kd.int .i64) 3 w' w.heap.size (fun _ => True) v0_ r1 ∧ Kd.R k69 69 w' w.heap.size (fun _ => True) v1_ r2 ∧ Below w.heap.size w w' := by
 have HB := Aside0.mk (Below.refl w.heap.size w)
 have HR0 := Aside0.mk hr0
 have HC0 := Aside0.mk hc0
 have CH : Aside0 (∀ W', Below w.heap.size w W' → Calls Try.prog 24 #[.slice A0 l0.length c0] W' fun e w' => e = .returned (.tuple #[.bool (holdsS (l0.map qR)).1, .int .i64 (holdsS (l0.map qR)).2]) ∧ Below W'.heap.size W' w') := ⟨fun W' hb => by
  have := tocsinref1_Holds.calls 9223372036854775900 A0 c0 l0 (holdsS (l0.map qR)).1 (holdsS (l0.map qR)).2 W' (Kd.C_below hr0 hb) hc0 (rholds_is _ l0 (Nat.le_refl _))
  exact this⟩
 unfold tocsinref21_Run.f at h
 clear hr0 hc0
 by_cases q1 : a2 < 0 ∨ 10000 < a2
 ·rw [if_pos q1] at h
  obtain ⟨rfl, rfl, rfl⟩ : r1 = [] ∧ r2 = [] ∧ r3 = 1 := by simp at h; exact ⟨h.1, h.2.1, h.2.2.symm⟩
  by_cases q2 : a2 < 0
  ·have z1 : decide (a2 < 0) = true := decide_eq_true q2
   clear q1 h CH
   go_enter Try.func15, Try.ntmps15
   go_wp2
   refine bodyPost_ret (results_ct rfl _ _ w.heap.size 42 #[.slice none 0 0, .slice none 0 0] (0, 0) _ rfl (blk_new _ _) Try.underlying42 rfl (by kernel_rfl)) rfl ?_
   exact ⟨_, _, rfl, Kd.R_nil _ _ _ _ _, Kd.R_nil _ _ _ _ _, (by repeat (first | (with_reducible first | exact HB.out | apply below_alloc | apply pw_below_drewN | apply below_drew1) | exact HB.out))⟩
  ·have z1 : decide (a2 < 0) = false := decide_eq_false q2
   have z2 : decide (10000 < a2) = true := decide_eq_true (by omega)
   clear q1 h CH
   go_enter Try.func15, Try.ntmps15
   go_wp2
   refine bodyPost_ret (results_ct rfl _ _ w.heap.size 42 #[.slice none 0 0, .slice none 0 0] (0, 0) _ rfl (blk_new _ _) Try.underlying42 rfl (by kernel_rfl)) rfl ?_
   exact ⟨_, _, rfl, Kd.R_nil _ _ _ _ _, Kd.R_nil _ _ _ _ _, (by repeat (first | (with_reducible first | exact HB.out | apply below_alloc | apply pw_below_drewN | apply below_drew1) | exact HB.out))⟩
 ·rw [if_neg q1] at h
  have z1 : decide (a2 < 0) = false := decide_eq_false (by omega)
  have z2 : decide (10000 < a2) = false := decide_eq_false (by omega)
  have q3 : 0 ≤ a2 ∧ a2 ≤ 10000 := by omega
  by_cases q2 : (holdsS (l0.map qR)).2 ≠ 0
  ·rw [if_pos q2] at h
   obtain ⟨rfl, rfl, rfl⟩ : r1 = [] ∧ r2 = [] ∧ r3 = (holdsS (l0.map qR)).2 := by simp at h; exact ⟨h.1, h.2.1, h.2.2.symm⟩
   generalize (holdsS (l0.map qR)).2 = er at *
   have z3 : (er != 0) = true := by simpa using q2
   clear h q1 q2
   go_enter Try.func15, Try.ntmps15
   go_wp2_with (first | (go_at_call 24; have HB1 := Aside0.mk (below_alloc HB.out (.cells #[.slice none 0 0, .slice none 0 0] 42)); have HG := Aside0.mk (blk_new w (.cells #[.slice none 0 0, .slice none 0 0] 42)); (with_reducible refine (CH.out _ HB1.out).mono ?_); rintro e w7 ⟨rfl, hb⟩; have HG2 := Aside0.mk (blk_below HG.out hb); have HB2 := Aside0.mk (below_step HB1.out hb); clear hb HG HB1; have hg0 : w7.cell? ⟨w.heap.size, 0, none⟩ = some (.slice none 0 0) := (blk_cell HG2.out 0).trans rfl; have hg1 : w7.cell? ⟨w.heap.size, 1, none⟩ = some (.slice none 0 0) := (blk_cell HG2.out 1).trans rfl; have hf0 := blk_frozen HG2.out 0; have hf1 := blk_frozen HG2.out 1))
   refine bodyPost_ret (results_ct rfl _ _ w.heap.size 42 #[.slice none 0 0, .slice none 0 0] (0, 0) _ rfl (blk_put (cs' := #[.slice none 0 0, .slice none 0 0]) (blk_put (cs' := #[.slice none 0 0, .slice none 0 0]) HG2.out 0 _ rfl) 1 _ rfl) Try.underlying42 rfl (by kernel_rfl)) rfl ?_
   exact ⟨_, _, rfl, Kd.R_nil _ _ _ _ _, Kd.R_nil _ _ _ _ _, low_set (low_set HB2.out (Nat.le_refl _) _ _) (Nat.le_refl _) _ _⟩
  ·rw [if_neg q2] at h
   have q4 : (holdsS (l0.map qR)).2 = 0 := by omega
   rw [q4] at CH
   by_cases q5 : (holdsS (l0.map qR)).1 = false
   ·rw [if_pos q5] at h
    obtain ⟨rfl, rfl, rfl⟩ : r1 = [] ∧ r2 = [] ∧ r3 = 9 := by simp at h; exact ⟨h.1, h.2.1, h.2.2.symm⟩
    rw [q5] at CH
    clear h q1 q2 q4 q5
    go_enter Try.func15, Try.ntmps15
    go_wp2_with (first | (go_at_call 24; have HB1 := Aside0.mk (below_alloc HB.out (.cells #[.slice none 0 0, .slice none 0 0] 42)); have HG := Aside0.mk (blk_new w (.cells #[.slice none 0 0, .slice none 0 0] 42)); (with_reducible refine (CH.out _ HB1.out).mono ?_); rintro e w7 ⟨rfl, hb⟩; have HG2 := Aside0.mk (blk_below HG.out hb); have HB2 := Aside0.mk (below_step HB1.out hb); clear hb HG HB1; have hg0 : w7.cell? ⟨w.heap.size, 0, none⟩ = some (.slice none 0 0) := (blk_cell HG2.out 0).trans rfl; have hg1 : w7.cell? ⟨w.heap.size, 1, none⟩ = some (.slice none 0 0) := (blk_cell HG2.out 1).trans rfl; have hf0 := blk_frozen HG2.out 0; have hf1 := blk_frozen HG2.out 1))
    refine bodyPost_ret (results_ct rfl _ _ w.heap.size 42 #[.slice none 0 0, .slice none 0 0] (0, 0) _ rfl (blk_put (cs' := #[.slice none 0 0, .slice none 0 0]) (blk_put (cs' := #[.slice none 0 0, .slice none 0 0]) HG2.out 0 _ rfl) 1 _ rfl) Try.underlying42 rfl (by kernel_rfl)) rfl ?_
    exact ⟨_, _, rfl, Kd.R_nil _ _ _ _ _, Kd.R_nil _ _ _ _ _, low_set (low_set HB2.out (Nat.le_refl _) _ _) (Nat.le_refl _) _ _⟩
   ·rw [if_neg q5] at h
    have q6 : (holdsS (l0.map qR)).1 = true := by simpa using q5
    have HGD := Aside0.mk (holds_good q4)
    rw [q6] at CH
    obtain ⟨rfl, rfl, rfl⟩ : r1 = (runTo a1 (l0.map iniR) a2.toNat).T ∧ r2 = ((runTo a1 (l0.map iniR) a2.toNat).M).map cv ∧ r3 = 0 := by simp at h; exact ⟨h.1.symm, h.2.1.symm, h.2.2.symm⟩
    clear h q1 q2 q4 q5 q6
    have HLA : Aside0 (l0.length ≤ 20) := ⟨by have h2 := HGD.out.1; simpa using h2⟩
    go_enter Try.func15, Try.ntmps15
    go_wp2_with (first | (go_at_call 24; have HB1 := Aside0.mk (below_alloc HB.out (.cells #[.slice none 0 0, .slice none 0 0] 42)); have HW2 := Aside0.mk (blk_new w (.cells #[.slice none 0 0, .slice none 0 0] 42)); (with_reducible refine (CH.out _ HB1.out).mono ?_); rintro e w7 ⟨rfl, hb⟩; have HBG := Aside0.mk hb; have HW1 := HB1; clear hb HB1; generalize w.alloc (.cells #[.slice none 0 0, .slice none 0 0] 42) = wG at HBG HW1 HW2) | ((with_reducible refine gate_dst (N := 38) rfl ?_); refine Kd.R_make k68 (w0 := wG) wG.heap.size 68 rfl (N := 38) rfl 65 _ _ rfl l0.length rfl rfl Try.underlying65 (.agg #[(.int .i64 0), (.int .i64 0), (.int .i64 0), (.bool false), (.bool false)]) 32 info68 rfl (by decide) (by omega) z68 (ok := fun _ => True) (okp := fun _ => True) (k68_mkM _ _ _ z68) (fun _ hk => hk) trivial (by omega) (by have := HLA.out; omega) (below_alloc HBG.out (.cells #[.slice none 0 0, .slice none 0 0] 42)) (below_size (below_alloc HBG.out (.cells #[.slice none 0 0, .slice none 0 0] 42))) ?_; intro v212 w66 ho67 hb hg_ hnew_))
    obtain ⟨Ax, cx, hv⟩ := Kd.R_slice ho67
    rw [List.length_replicate, Int.toNat_natCast] at hv
    rw [Int.toNat_natCast] at ho67
    subst hv
    have HRC := Aside0.mk (show RefC wG w66 w7.heap.size (.slice Ax l0.length cx) (.slice none 0 0) (.slice none 0 0) (List.replicate l0.length z68) [] [] from ⟨blk_grown (blk_new w7 (.cells #[.slice none 0 0, .slice none 0 0] 42)) hg_ (by simp), below_size HBG.out, Kd.Q_of_R ho67, Kd.R_nil _ _ _ _ _, Kd.R_nil _ _ _ _ _⟩)
    have HBR := Aside0.mk hb
    have HGO := Aside0.mk (below_size HBG.out)
    clear ho67 hb hg_ hnew_ HB HBG CH
    generalize w7.heap.size = O at HRC HGO ⊢
    clear w7
    have OKB : Aside0 (∀ x ∈ l0.map iniR, okS a1 0 x ∧ okB 0 x ∧ x.n = -1) := ⟨by
     intro x hx
     obtain ⟨t, ht, rfl⟩ := List.mem_map.1 hx
     have := iniR_ok (HGD.out.2 (qR t) (List.mem_map_of_mem ht)) a1
     exact ⟨this.1, this.2, rfl⟩⟩
    have HPR : Aside0 (∀ (i : Nat) (x : St), (l0.map iniR)[i]? = some x → x.p = (rd_T66 l0 (i : Int)).f0 ∧ x.need = (rd_T66 l0 (i : Int)).f1 ∧ x.s = (rd_T66 l0 (i : Int)).f2) := ⟨by
     intro i x hx
     rw [List.getElem?_map, Option.map_eq_some_iff] at hx
     obtain ⟨t, ht, rfl⟩ := hx
     unfold rd_T66
     rw [List.getD_eq_getElem?_getD, show ((i : Int)).toNat = i by omega, ht]
     exact ⟨rfl, rfl, rfl⟩⟩
    have HSM := Aside0.mk (sim_ini a1 (l0.map iniR) (fun x hx => (OKB.out x hx).2.2))
    have HLS : Aside0 ((l0.map iniR).length = l0.length) := ⟨by simp⟩
    rw [HLS.out] at HSM
    generalize hS0 : l0.map iniR = S0 at *
    have HS0 := Aside0.mk hS0
    clear hS0
    go_loopw [12] (fun v12 wq => ∃ (k : Int) (vt vm : Value) (xs : List S68), 0 ≤ k ∧ k ≤ a2 ∧ v12 = .int .i64 k ∧ Aside0 (SimL a1 (runTo a1 S0 k.toNat).S xs) ∧ Aside0 (RefC wG wq O (.slice Ax l0.length cx) vt vm xs (runTo a1 S0 k.toNat).T ((runTo a1 S0 k.toNat).M.map cv)) ∧ Aside0 (Below wG.heap.size wG wq)) (fun v12 _ => a2.toNat - (intOf v12).toNat)
    case atStart => exact ⟨0, _, _, _, by omega, by omega, rfl, HSM, HRC, HBR⟩
    case round =>
     clear HSM HRC HBR
     obtain ⟨k, vt, vm, xs, hk0, hk, rfl, HSM, HC, HB⟩ := hrel
     by_cases hlt : k < a2
     ·have hbd := run_bd a1 S0 (fun x hx => (OKB.out x hx).2.1) k.toNat
      have hok := run_okS a1 S0 (fun x hx => (OKB.out x hx).1) k.toNat
      have hTl := runTo_T a1 S0 k.toNat
      have hSl := runTo_len a1 S0 k.toNat
      have hal := run_alike a1 S0 k.toNat
      have HNX : Aside0 (runTo a1 S0 (k + 1).toNat = stepS a1 k (runTo a1 S0 k.toNat)) := ⟨by rw [show (k + 1).toNat = k.toNat + 1 by omega, runTo, Int.toNat_of_nonneg hk0]⟩
      rw [Int.toNat_of_nonneg hk0] at hbd hok
      have HML : Aside0 ((runTo a1 S0 k.toNat).M.length ≤ 200000) := ⟨by have := Nat.mul_le_mul (show k.toNat ≤ 10000 by omega) (show S0.length ≤ 20 by have := HLA.out; have := HLS.out; omega); omega⟩
      have HTL : Aside0 ((runTo a1 S0 k.toNat).T.length ≤ 10000) := ⟨by omega⟩
      have HBD := Aside0.mk hbd.1
      have HOK := Aside0.mk hok
      have HRL : Aside0 ((runTo a1 S0 k.toNat).S.length = l0.length) := ⟨hSl.trans HLS.out⟩
      have HPA : Aside0 (∀ (i : Nat) (x : St), (runTo a1 S0 k.toNat).S[i]? = some x → x.p = (rd_T66 l0 (i : Int)).f0 ∧ x.need = (rd_T66 l0 (i : Int)).f1 ∧ x.s = (rd_T66 l0 (i : Int)).f2) := ⟨by
       intro i x hx
       have hi : i < S0.length := by have := (List.getElem?_eq_some_iff.1 hx).1; omega
       obtain ⟨b1, b2, b3⟩ := hal i x hx _ (List.getElem?_eq_getElem hi)
       obtain ⟨c1, c2, c3⟩ := HPR.out i _ (List.getElem?_eq_getElem hi)
       exact ⟨b1.trans c1, b2.trans c2, b3.trans c3⟩⟩
      have hwk : wrap64 (k + 1) = k + 1 := by simp only [wrap64]; omega
      have HWK := Aside0.mk hwk
      clear hbd hTl hok hSl hal hwk
      generalize runTo a1 S0 k.toNat = r at *
      have hz : decide (k < a2) = true := decide_eq_true hlt
      go_wp2
      go_loopw [13] (fun v13 wi => ∃ (i : Int) (vm' : Value) (ys : List S68), 0 ≤ i ∧ i ≤ l0.length ∧ v13 = .int .i64 i ∧ Aside0 (SimL a1 ((r.S.take i.toNat).map (tq a1 k) ++ r.S.drop i.toNat) ys) ∧ Aside0 (RefC wG wi O (.slice Ax l0.length cx) vt vm' ys r.T ((r.M ++ mkl k 0 (r.S.take i.toNat)).map cv)) ∧ Aside0 (Below wG.heap.size wG wi)) (fun v13 _ => l0.length - (intOf v13).toNat)
      case atStart => exact ⟨0, vm, xs, by omega, by omega, rfl, ⟨by show SimL a1 ((r.S.take 0).map (tq a1 k) ++ r.S.drop 0) xs; simp only [List.take_zero, List.map_nil, List.nil_append, List.drop_zero]; exact HSM.out⟩, ⟨by show RefC wG wr O _ vt vm xs r.T ((r.M ++ mkl k 0 (r.S.take 0)).map cv); simp only [List.take_zero, mkl, List.append_nil]; exact HC.out⟩, HB⟩
      case round =>
       clear HC HB HSM vm xs
       obtain ⟨i, vm, ys, hi0, hi, rfl, HSM, HC, HB⟩ := hrel
       by_cases hli : i < l0.length
       ·obtain ⟨x, hx⟩ : ∃ x, r.S[i.toNat]? = some x := ⟨_, List.getElem?_eq_getElem (by have := HRL.out; omega)⟩
        have hmx := mid_get (tq a1 k) i.toNat r.S x hx
        obtain ⟨y, hy, hyd, hsim⟩ := sim_get HSM.out i.toNat x hmx
        have hxb := HBD.out x (List.mem_of_getElem? hx)
        have hxo := HOK.out x (List.mem_of_getElem? hx)
        obtain ⟨hp1, hp2, hp3⟩ := HPA.out i.toNat x hx
        rw [Int.toNat_of_nonneg hi0] at hp1 hp2 hp3
        obtain ⟨ad, rfl, T0, T1, T2⟩ := at_T66 (Kd.C_below HR0.out HW1.out) i hi0 hli
        rw [← hp1] at T0
        rw [← hp2] at T1
        rw [← hp3] at T2
        clear hp1 hp2 hp3
        have HT0 := Aside0.mk T0
        have HT1 := Aside0.mk T1
        have HT2 := Aside0.mk T2
        have t0 := (HB.out.cell (World.block_lt_of_cell? wG _ T0)).trans T0
        have t1 := (HB.out.cell (World.block_lt_of_cell? wG _ T1)).trans T1
        have t2 := (HB.out.cell (World.block_lt_of_cell? wG _ T2)).trans T2
        clear T0 T1 T2
        have hyl := HSM.out.1
        rw [mid_len] at hyl
        obtain ⟨g, o, cap, hv, _⟩ := Kd.Q_form HC.out.2.2.1 (by have := HRL.out; omega)
        injection hv with hv1 hv2 hv3
        subst hv1 hv3
        have HYL := Aside0.mk (hv2.trans hyl)
        obtain ⟨hce, hfe⟩ := lf_cells HC.out.2.2.1 i hi0 (by omega) y hyd
        have hml := mkl_len k (r.S.take i.toNat) 0
        have hpp : 1 ≤ x.p := hxb.1.1
        have hp0 : ¬ x.p = 0 := by omega
        have hpz : (x.p == 0) = false := by simpa using hp0
        have hwi : wrap64 (i + 1) = i + 1 := by have := HLA.out; simp only [wrap64]; omega
        have e1 := map_take (tq a1 k) i.toNat r.S x hx
        have e2 := mkl_take k i.toNat 0 r.S x hx
        have e3 := map_skip (tq a1 k) i.toNat r.S x hx
        rw [Nat.zero_add] at e2
        have HYS := Aside0.mk hv2
        clear hyl hv2
        by_cases hd : k.tmod x.p = 0
        ·have hq : tq a1 k x = turnS a1 x k := if_pos hd
         have hm : mq k i.toNat x = markS i.toNat x := if_pos hd
         have z : (k % x.p != 0) = false := by rw [Int.tmod_eq_emod_of_nonneg hk0] at hd; simpa using hd
         rw [hm] at e2
         have hle : 0 ≤ x.left ∧ x.left ≤ x.need := ⟨hxo.2.2.2.2.2.2.2.1, hxo.2.2.2.2.2.2.2.2.1⟩
         have hnx := sim_next hxo hxb.2.2.1.2 hsim
         rw [← hq] at hnx
         have HS2 := sim_set HSM.out i.toNat _ _ hnx
         rw [e1] at HS2
         have HS2 := Aside0.mk HS2
         have hmark : (markS i.toNat x).map cv = if y.f3 = true then [(⟨i, y.f0, y.f4, decide (x.need ≤ y.f1)⟩ : S69)] else [] := by
          unfold markS
          by_cases hn : x.n = -1
          ·rw [if_neg (by omega), hsim.zero hn]
           rfl
          ·obtain ⟨g1, g2, g3, g4⟩ := hsim.here hn
           have hn0 := hxb.2.2.2.1.1
           rw [if_pos (by omega), if_pos g1, g2, g4, g3]
           have e4 : decide (x.left = 0) = decide (x.need ≤ x.need - x.left) := by rw [decide_eq_decide]; omega
           simp only [List.map_cons, List.map_nil, cv]
           rw [e4, Int.toNat_of_nonneg hi0]
         have HM2 : Aside0 ((r.M ++ mkl k 0 (r.S.take (i.toNat + 1))).map cv = (r.M ++ mkl k 0 (r.S.take i.toNat)).map cv ++ (if y.f3 = true then [(⟨i, y.f0, y.f4, decide (x.need ≤ y.f1)⟩ : S69)] else [])) := ⟨by rw [e2, ← List.append_assoc, List.map_append, hmark]⟩
         have HMX : Aside0 (((r.M ++ mkl k 0 (r.S.take i.toNat)).map cv).length ≤ 300000) := ⟨by rw [List.length_map, List.length_append]; have := HML.out; have := HLA.out; rw [List.length_take] at hml; omega⟩
         have HYBx : Aside0 ((0 ≤ y.f0 ∧ y.f0 ≤ 100000) ∧ (0 ≤ y.f2 ∧ y.f2 ≤ 1000000)) := ⟨by
          have hb2 := hsim.bd
          have hn1 := hxb.2.2.2.1
          by_cases hn : x.n = -1
          ·rw [hsim.zero hn]; simp [z68]
          ·obtain ⟨_, g2, _, _⟩ := hsim.here hn
           omega⟩
         have HXS : Aside0 (0 ≤ x.s ∧ x.s ≤ 1000) := ⟨hxb.2.2.1⟩
         generalize (r.M ++ mkl k 0 (r.S.take i.toNat)).map cv = Mx at *
         clear hnx hmark hsim hle e1 e2 e3 hq hm hd hml hxb hxo hmx hx hy HSM
         have E1 := hce 1 _ rfl
         have E3 := hce 3 _ rfl
         have E0 : wr.cell? ⟨g, o + i.toNat * 5, none⟩ = some (.int .i64 y.f0) := hce 0 _ rfl
         have E4 := hce 4 _ rfl
         clear hce hfe
         obtain ⟨yn, yran, yreds, yis, yred⟩ := y
         have hwn : wrap64 (yn + 1) = yn + 1 := by have := HYBx.out.1; simp only at this; simp only [wrap64]; omega
         have HWN := Aside0.mk hwn
         have HWI := Aside0.mk hwi
         have HYD0 := Aside0.mk hyd
         have HYD1 := HYS
         clear hyd
         obtain ⟨Am, cm, rfl⟩ := Kd.R_slice HC.out.2.2.2.2
         cases yis with
         | true =>
          have HM3 : Aside0 ((r.M ++ mkl k 0 (r.S.take (i.toNat + 1))).map cv = Mx ++ [(⟨i, yn, yred, decide (x.need ≤ yran)⟩ : S69)]) := ⟨by have := HM2.out; simpa using this⟩
          go_wp2
          go_quiet (fail)
          go_wp2
          have HCn := Aside0.mk (RefC_drewN HC.out nq)
          have HBn := Aside0.mk (pw_below_drewN HB.out nq)
          have cO1n : (wr.drewN nq).cell? ⟨O, 1, none⟩ = some (.slice Am Mx.length cm) := (blk_cell HCn.out.1 1).trans rfl
          have b0n : (wr.drewN nq).cell? ⟨g, o + i.toNat * 5, none⟩ = some (.int .i64 yn) := E0
          have b4n : (wr.drewN nq).cell? ⟨g, o + i.toNat * 5 + 4, none⟩ = some (.bool yred) := E4
          have hyd := HYD0.out
          clear HC HB E0 E1 E3 E4 t0 t1 t2
          generalize wr.drewN nq = Wd at HCn HBn cO1n b0n b4n ⊢
          refine start_ (n := 19) (S := fun w' => w'.cell? ⟨O, 1, none⟩ = some (.slice Am Mx.length cm) ∧ w'.cell? ⟨g, o + i.toNat * 5, none⟩ = some (.int .i64 yn) ∧ w'.cell? ⟨g, o + i.toNat * 5 + 4, none⟩ = some (.bool yred)) (ds := [18]) #[false, false, false, false, false, false, false, false, false, false, false, false, false, false, false, false, false, false, false] (by kernel_rfl) rfl rfl ⟨cO1n, b0n, b4n⟩ (fun hHeld => ?_)
          have HC := Aside0.mk (RefC_drew HCn.out)
          have HB := Aside0.mk (below_drew HBn.out)
          clear HCn HBn cO1n b0n b4n
          generalize Wd.drew = We at HC HB hHeld ⊢
          have cO1 := hHeld.1
          have b0 := hHeld.2.1
          have b4 := hHeld.2.2
          refine pure_ (i := 0) (N := some 74) (v := ?_) (a' := ?_) #[true, false, false, false, false, false, false, false, false, false, false, false, false, false, false, false, false, false, false] rfl rfl (by kernel_rfl) (fun _ _ _ h => h) (Or.inl ⟨by rfl, ?_⟩) ?_ ?_
          rotate_left
          ·intro w'
           go_simp
           with_reducible rfl
          rotate_left
          ·simp only [Act.put, List.setIfInBounds_toArray, List.set_cons_zero, List.set_cons_succ, i64_w, i32_w]
           rfl
          refine pure_ (i := 2) (N := some 76) (v := ?_) (a' := ?_) #[true, false, true, false, false, false, false, false, false, false, false, false, false, false, false, false, false, false, false] rfl rfl (by kernel_rfl) (fun _ _ _ h => h) (Or.inl ⟨by rfl, ?_⟩) ?_ ?_
          rotate_left
          ·intro w'
           go_simp
           with_reducible rfl
          rotate_left
          ·simp only [Act.put, List.setIfInBounds_toArray, List.set_cons_zero, List.set_cons_succ, i64_w, i32_w]
           rfl
          refine pure_ (i := 3) (N := some 77) (v := ?_) (a' := ?_) #[true, false, true, true, false, false, false, false, false, false, false, false, false, false, false, false, false, false, false] rfl rfl (by kernel_rfl) (fun _ _ _ h => h) (Or.inl ⟨by rfl, ?_⟩) ?_ ?_
          rotate_left
          ·intro w'
           go_simp
           with_reducible rfl
          rotate_left
          ·simp only [Act.put, List.setIfInBounds_toArray, List.set_cons_zero, List.set_cons_succ, i64_w, i32_w]
           rfl
          refine pure_ (i := 4) (N := some 78) (v := ?_) (a' := ?_) #[true, false, true, true, true, false, false, false, false, false, false, false, false, false, false, false, false, false, false] rfl rfl (by kernel_rfl) (fun _ _ _ h => h) (Or.inl ⟨by rfl, ?_⟩) ?_ ?_
          rotate_left
          ·intro w'
           go_simp
           with_reducible rfl
          rotate_left
          ·simp only [Act.put, List.setIfInBounds_toArray, List.set_cons_zero, List.set_cons_succ, i64_w, i32_w]
           rfl
          refine pure_ (i := 5) (N := some 79) (v := ?_) (a' := ?_) #[true, false, true, true, true, true, false, false, false, false, false, false, false, false, false, false, false, false, false] rfl rfl (by kernel_rfl) (fun _ _ _ h => h) (Or.inl ⟨by rfl, ?_⟩) ?_ ?_
          rotate_left
          ·intro w'
           go_simp
           with_reducible rfl
          rotate_left
          ·simp only [Act.put, List.setIfInBounds_toArray, List.set_cons_zero, List.set_cons_succ, i64_w, i32_w]
           rfl
          refine pure_ (i := 6) (N := some 80) (v := ?_) (a' := ?_) #[true, false, true, true, true, true, true, false, false, false, false, false, false, false, false, false, false, false, false] rfl rfl (by kernel_rfl) (fun _ _ _ h => h) (Or.inl ⟨by rfl, ?_⟩) ?_ ?_
          rotate_left
          ·intro w'
           go_simp
           with_reducible rfl
          rotate_left
          ·simp only [Act.put, List.setIfInBounds_toArray, List.set_cons_zero, List.set_cons_succ, i64_w, i32_w]
           rfl
          refine pure_ (i := 8) (N := some 82) (v := ?_) (a' := ?_) #[true, false, true, true, true, true, true, false, true, false, false, false, false, false, false, false, false, false, false] rfl rfl (by kernel_rfl) (fun _ _ _ h => h) (Or.inl ⟨by rfl, ?_⟩) ?_ ?_
          rotate_left
          ·intro w'
           go_simp
           with_reducible rfl
          rotate_left
          ·simp only [Act.put, List.setIfInBounds_toArray, List.set_cons_zero, List.set_cons_succ, i64_w, i32_w]
           rfl
          refine pure_ (i := 9) (N := some 83) (v := ?_) (a' := ?_) #[true, false, true, true, true, true, true, false, true, true, false, false, false, false, false, false, false, false, false] rfl rfl (by kernel_rfl) (fun _ _ _ h => h) (Or.inl ⟨by rfl, ?_⟩) ?_ ?_
          rotate_left
          ·intro w'
           go_simp
           with_reducible rfl
          rotate_left
          ·simp only [Act.put, List.setIfInBounds_toArray, List.set_cons_zero, List.set_cons_succ, i64_w, i32_w]
           rfl
          refine pure_ (i := 10) (N := some 84) (v := ?_) (a' := ?_) #[true, false, true, true, true, true, true, false, true, true, true, false, false, false, false, false, false, false, false] rfl rfl (by kernel_rfl) (fun _ _ _ h => h) (Or.inl ⟨by rfl, ?_⟩) ?_ ?_
          rotate_left
          ·intro w'
           go_simp
           with_reducible rfl
          rotate_left
          ·simp only [Act.put, List.setIfInBounds_toArray, List.set_cons_zero, List.set_cons_succ, i64_w, i32_w]
           rfl
          refine pure_ (i := 11) (N := some 85) (v := ?_) (a' := ?_) #[true, false, true, true, true, true, true, false, true, true, true, true, false, false, false, false, false, false, false] rfl rfl (by kernel_rfl) (fun _ _ _ h => h) (Or.inl ⟨by rfl, ?_⟩) ?_ ?_
          rotate_left
          ·intro w'
           go_simp
           with_reducible rfl
          rotate_left
          ·simp only [Act.put, List.setIfInBounds_toArray, List.set_cons_zero, List.set_cons_succ, i64_w, i32_w]
           rfl
          refine pure_ (i := 13) (N := some 87) (v := ?_) (a' := ?_) #[true, false, true, true, true, true, true, false, true, true, true, true, false, true, false, false, false, false, false] rfl rfl (by kernel_rfl) (fun _ _ _ h => h) (Or.inl ⟨by rfl, ?_⟩) ?_ ?_
          rotate_left
          ·intro w'
           go_simp
           with_reducible rfl
          rotate_left
          ·simp only [Act.put, List.setIfInBounds_toArray, List.set_cons_zero, List.set_cons_succ, i64_w, i32_w]
           rfl
          refine take_ (i := 1) (N := some 75) (v := ?_) (a' := ?_) #[true, true, true, true, true, true, true, false, true, true, true, true, false, true, false, false, false, false, false] rfl rfl (by kernel_rfl) (fun _ _ _ h => h) (Or.inl ⟨by rfl, ?_⟩) hHeld ?_ ?_
          rotate_left
          ·rintro w' ⟨s0, s1, s2⟩
           go_simp
           with_reducible rfl
          rotate_left
          ·simp only [Act.put, List.setIfInBounds_toArray, List.set_cons_zero, List.set_cons_succ, i64_w, i32_w]
           rfl
          refine take_ (i := 7) (N := some 81) (v := ?_) (a' := ?_) #[true, true, true, true, true, true, true, true, true, true, true, true, false, true, false, false, false, false, false] rfl rfl (by kernel_rfl) (fun _ _ _ h => h) (Or.inl ⟨by rfl, ?_⟩) hHeld ?_ ?_
          rotate_left
          ·rintro w' ⟨s0, s1, s2⟩
           go_simp
           with_reducible rfl
          rotate_left
          ·simp only [Act.put, List.setIfInBounds_toArray, List.set_cons_zero, List.set_cons_succ, i64_w, i32_w]
           rfl
          refine take_ (i := 12) (N := some 86) (v := ?_) (a' := ?_) #[true, true, true, true, true, true, true, true, true, true, true, true, true, true, false, false, false, false, false] rfl rfl (by kernel_rfl) (fun _ _ _ h => h) (Or.inl ⟨by rfl, ?_⟩) hHeld ?_ ?_
          rotate_left
          ·rintro w' ⟨s0, s1, s2⟩
           go_simp
           with_reducible rfl
          rotate_left
          ·simp only [Act.put, List.setIfInBounds_toArray, List.set_cons_zero, List.set_cons_succ, i64_w, i32_w]
           rfl
          refine pure_ (i := 14) (N := some 88) (v := ?_) (a' := ?_) #[true, true, true, true, true, true, true, true, true, true, true, true, true, true, true, false, false, false, false] rfl rfl (by kernel_rfl) (fun _ _ _ h => h) (Or.inl ⟨by rfl, ?_⟩) ?_ ?_
          rotate_left
          ·intro w'
           go_simp
           with_reducible rfl
          rotate_left
          ·simp only [Act.put, List.setIfInBounds_toArray, List.set_cons_zero, List.set_cons_succ, i64_w, i32_w]
           rfl
          refine one_ (i := 15) (N := some 89) #[true, true, true, true, true, true, true, true, true, true, true, true, true, true, true, true, false, false, false] rfl rfl (by kernel_rfl) (by decide) (fun K hK => ?_)
          refine value_ (w1 := ?_) (v := ?_) (by rfl) rfl ?_ ?_
          rotate_left 2
          ·go_simp
           constructor
           ·rfl
           ·rfl
          refine hK.out _ _ ⟨(World.cell?_alloc_lt _ _ _ (World.block_lt_of_cell? _ _ cO1)).trans cO1, (World.cell?_alloc_lt _ _ _ (World.block_lt_of_cell? _ _ b0)).trans b0, (World.cell?_alloc_lt _ _ _ (World.block_lt_of_cell? _ _ b4)).trans b4⟩ (fun hHeld => ?_)
          clear hK K
          refine norm_ (a' := ?_) ?_ ?_
          rotate_left
          ·show Act.put _ (some 89) _ = _
           simp only [Act.put, List.setIfInBounds_toArray, List.set_cons_zero, List.set_cons_succ, i64_w, i32_w]
           rfl
          refine one_ (i := 16) (N := some 90) #[true, true, true, true, true, true, true, true, true, true, true, true, true, true, true, true, true, false, false] rfl rfl (by kernel_rfl) (by decide) (fun K hK => ?_)
          refine Kd.R_append_step k69 (w0 := wG) wG.heap.size (by rfl) (.tmp 75) (.tmp 89) 40 69 (.agg #[(.int .i64 0), (.int .i64 0), (.bool false), (.bool false)]) 24 rfl Try.underlying40 info69 rfl (by decide) (by omega) (.slice Am Mx.length cm) Mx (⟨i, yn, yred, decide (x.need ≤ yran)⟩ : S69) [.int .i64 i, .int .i64 yn, .bool yred, .bool (decide (x.need ≤ yran))] (fun _ => True) (fun _ => False) rfl rfl ?aP (fun _ hk => hk.elim) (fun _ _ => trivial) ?aO ?aB ?aS ?aL ?_
          (case aP => exact k69_mkM _ _ _ (⟨i, yn, yred, decide (x.need ≤ yran)⟩ : S69))
          (case aO => exact HC.out.2.2.2.2)
          (case aB => exact HB.out)
          (case aS => exact below_size HB.out)
          (case aL => have := HMX.out; omega)
          intro v1 w6 ho hb hg hat
          obtain ⟨A1_, c1_, rfl⟩ := Kd.R_slice ho
          have hRw := blk_grown HC.out.1 hg (Kd.R_ne HC.out.2.2.2.2 HC.out.1 (by decide))
          have hQ6 := Q_other HC.out.2.2.1 HC.out.2.2.2.2 (fun q hq => e_68 hq (by decide)) hg
          have hc6 := (lf_cells hQ6 i hi0 hli _ hyd).1
          have cw1 : w6.cell? ⟨O, 1, none⟩ = some (.slice Am Mx.length cm) := (blk_cell hRw 1).trans rfl
          have fw1 := blk_frozen hRw 1
          have HC1 := Aside0.mk (RefC_M HC.out hg ho)
          have HB1 := Aside0.mk (low_set hb HC.out.2.1 1 (.slice A1_ (Mx.length + 1) c1_))
          clear ho hb hat
          refine hK.out _ _ ⟨(blk_cell hRw 1).trans rfl, hc6 0 _ rfl, hc6 4 _ rfl⟩ (fun hHeld => ?_)
          clear hK K
          refine norm_ (a' := ?_) ?_ ?_
          rotate_left
          ·show Act.put _ (some 90) _ = _
           simp only [Act.put, List.setIfInBounds_toArray, List.set_cons_zero, List.set_cons_succ, i64_w, i32_w]
           rfl
          refine pure_ (i := 17) (N := some 91) (v := ?_) (a' := ?_) #[true, true, true, true, true, true, true, true, true, true, true, true, true, true, true, true, true, true, false] rfl rfl (by kernel_rfl) (fun _ _ _ h => h) (Or.inl ⟨by rfl, ?_⟩) ?_ ?_
          rotate_left
          ·intro w'
           go_simp
           with_reducible rfl
          rotate_left
          ·simp only [Act.put, List.setIfInBounds_toArray, List.set_cons_zero, List.set_cons_succ, i64_w, i32_w]
           rfl
          refine last_ (i := 18) (N := none) #[true, true, true, true, true, true, true, true, true, true, true, true, true, true, true, true, true, true, true] rfl rfl (by kernel_rfl) (by decide) (fun K hK => ?_)
          refine skip_ (w1 := ?_) (by rfl) rfl ?_ ?_
          rotate_left
          ·go_simp
           rfl
          refine hK.out _ _ ?_
          clear hK K
          refine done_ (by kernel_rfl) ?_
          rw [show (Mx ++ [(⟨i, yn, yred, decide (x.need ≤ yran)⟩ : S69)]).length = Mx.length + 1 by simp] at HC1
          clear HC HB hRw hQ6 hc6 cw1 fw1 hg hHeld cO1 b0 b4
          generalize w6.setCell ⟨O, 1, none⟩ (.slice A1_ (Mx.length + 1) c1_) = W1 at HC1 HB1 ⊢
          obtain ⟨hce, hfe⟩ := lf_cells HC1.out.2.2.1 i hi0 hli _ hyd
          have E0 : W1.cell? ⟨g, o + i.toNat * 5, none⟩ = some (.int .i64 yn) := hce 0 _ rfl
          have F0 : W1.frozen? ⟨g, o + i.toNat * 5, none⟩ = false := hfe 0
          clear hce hfe
          go_wp2
          have HC2 := Aside0.mk (show RefC wG (W1.setCell ⟨g, o + i.toNat * 5, none⟩ (.int .i64 (yn + 1))) O _ _ _ _ _ _ from RefC_put HC1.out i hi0 hli _ hyd 0 (by decide) (.int .i64 (yn + 1)) (⟨yn + 1, yran, yreds, true, yred⟩ : S68) rfl)
          have HB2 := Aside0.mk (low_set HB1.out (lf_typed HC1.out.2.2.1).1 (o + i.toNat * 5) (.int .i64 (yn + 1)))
          have HYL1 : Aside0 (i.toNat < (ys.set i.toNat (⟨yn + 1, yran, yreds, true, yred⟩ : S68)).length) := ⟨by rw [List.length_set]; have := HYS.out; omega⟩
          have HYD : Aside0 ((ys.set i.toNat (⟨yn + 1, yran, yreds, true, yred⟩ : S68)).getD i.toNat z68 = ⟨yn + 1, yran, yreds, true, yred⟩) := ⟨getD_set (by have := HYS.out; omega) _⟩
          have HYB : Aside0 ((0 ≤ (⟨yn + 1, yran, yreds, true, yred⟩ : S68).f0 ∧ (⟨yn + 1, yran, yreds, true, yred⟩ : S68).f0 ≤ 1000000) ∧ (0 ≤ (⟨yn + 1, yran, yreds, true, yred⟩ : S68).f2 ∧ (⟨yn + 1, yran, yreds, true, yred⟩ : S68).f2 ≤ 1000000)) := ⟨by have := HYBx.out; simp only at this ⊢; omega⟩
          clear HC1 HB1 E0 F0
          generalize W1.setCell ⟨g, o + i.toNat * 5, none⟩ (.int .i64 (yn + 1)) = Wd at HC2 HB2 ⊢
          have u0 := (HB2.out.cell (World.block_lt_of_cell? wG _ HT0.out)).trans HT0.out
          have u1 := (HB2.out.cell (World.block_lt_of_cell? wG _ HT1.out)).trans HT1.out
          have u2 := (HB2.out.cell (World.block_lt_of_cell? wG _ HT2.out)).trans HT2.out
          refine start_ (n := 15) (S := fun w' => w'.cell? (ad.add (i.toNat * 3)) = some (.int .i64 x.p) ∧ w'.cell? ⟨(ad.add (i.toNat * 3)).block, (ad.add (i.toNat * 3)).off + 1, none⟩ = some (.int .i64 x.need) ∧ w'.cell? ⟨(ad.add (i.toNat * 3)).block, (ad.add (i.toNat * 3)).off + 2, none⟩ = some (.int .i64 x.s)) (ds := [14]) #[false, false, false, false, false, false, false, false, false, false, false, false, false, false, false] (by kernel_rfl) rfl rfl ⟨u0, u1, u2⟩ (fun hHeld => ?_)
          have HC3 := Aside0.mk (RefC_drew HC2.out)
          have HB3 := Aside0.mk (below_drew HB2.out)
          clear HC2 HB2 u0 u1 u2
          generalize Wd.drew = We at HC3 HB3 hHeld ⊢
          have u0 := hHeld.1
          have u1 := hHeld.2.1
          have u2 := hHeld.2.2
          obtain ⟨hgb, cur, hcur⟩ := lf_typed HC3.out.2.2.1
          obtain ⟨hce3, hfe3⟩ := lf_cells HC3.out.2.2.1 i hi0 hli _ HYD.out
          have HCC := Aside0.mk (colL_c wG We g (o + i.toNat * 5) cur _ x.p x.need x.s a1 (decide (x.need ≤ yran)) hcur hce3 hfe3 HB3.out hgb HYB.out HXS.out)
          clear hce3 hfe3
          refine pure_ (i := 0) (N := some 100) (v := ?_) (a' := ?_) #[true, false, false, false, false, false, false, false, false, false, false, false, false, false, false] rfl rfl (by kernel_rfl) (fun _ _ _ h => h) (Or.inl ⟨by rfl, ?_⟩) ?_ ?_
          rotate_left
          ·intro w'
           go_simp
           with_reducible rfl
          rotate_left
          ·simp only [Act.put, List.setIfInBounds_toArray, List.set_cons_zero, List.set_cons_succ, i64_w, i32_w]
           rfl
          refine pure_ (i := 1) (N := some 101) (v := ?_) (a' := ?_) #[true, true, false, false, false, false, false, false, false, false, false, false, false, false, false] rfl rfl (by kernel_rfl) (fun _ _ _ h => h) (Or.inl ⟨by rfl, ?_⟩) ?_ ?_
          rotate_left
          ·intro w'
           go_simp
           with_reducible rfl
          rotate_left
          ·simp only [Act.put, List.setIfInBounds_toArray, List.set_cons_zero, List.set_cons_succ, i64_w, i32_w]
           rfl
          refine pure_ (i := 2) (N := some 102) (v := ?_) (a' := ?_) #[true, true, true, false, false, false, false, false, false, false, false, false, false, false, false] rfl rfl (by kernel_rfl) (fun _ _ _ h => h) (Or.inl ⟨by rfl, ?_⟩) ?_ ?_
          rotate_left
          ·intro w'
           go_simp
           with_reducible rfl
          rotate_left
          ·simp only [Act.put, List.setIfInBounds_toArray, List.set_cons_zero, List.set_cons_succ, i64_w, i32_w]
           rfl
          refine pure_ (i := 3) (N := some 103) (v := ?_) (a' := ?_) #[true, true, true, true, false, false, false, false, false, false, false, false, false, false, false] rfl rfl (by kernel_rfl) (fun _ _ _ h => h) (Or.inl ⟨by rfl, ?_⟩) ?_ ?_
          rotate_left
          ·intro w'
           go_simp
           with_reducible rfl
          rotate_left
          ·simp only [Act.put, List.setIfInBounds_toArray, List.set_cons_zero, List.set_cons_succ, i64_w, i32_w]
           rfl
          refine pure_ (i := 4) (N := some 104) (v := ?_) (a' := ?_) #[true, true, true, true, true, false, false, false, false, false, false, false, false, false, false] rfl rfl (by kernel_rfl) (fun _ _ _ h => h) (Or.inl ⟨by rfl, ?_⟩) ?_ ?_
          rotate_left
          ·intro w'
           go_simp
           with_reducible rfl
          rotate_left
          ·simp only [Act.put, List.setIfInBounds_toArray, List.set_cons_zero, List.set_cons_succ, i64_w, i32_w]
           rfl
          refine pure_ (i := 5) (N := some 105) (v := ?_) (a' := ?_) #[true, true, true, true, true, true, false, false, false, false, false, false, false, false, false] rfl rfl (by kernel_rfl) (fun _ _ _ h => h) (Or.inl ⟨by rfl, ?_⟩) ?_ ?_
          rotate_left
          ·intro w'
           go_simp
           with_reducible rfl
          rotate_left
          ·simp only [Act.put, List.setIfInBounds_toArray, List.set_cons_zero, List.set_cons_succ, i64_w, i32_w]
           rfl
          refine pure_ (i := 6) (N := some 106) (v := ?_) (a' := ?_) #[true, true, true, true, true, true, true, false, false, false, false, false, false, false, false] rfl rfl (by kernel_rfl) (fun _ _ _ h => h) (Or.inl ⟨by rfl, ?_⟩) ?_ ?_
          rotate_left
          ·intro w'
           go_simp
           with_reducible rfl
          rotate_left
          ·simp only [Act.put, List.setIfInBounds_toArray, List.set_cons_zero, List.set_cons_succ, i64_w, i32_w]
           rfl
          refine pure_ (i := 7) (N := some 107) (v := ?_) (a' := ?_) #[true, true, true, true, true, true, true, true, false, false, false, false, false, false, false] rfl rfl (by kernel_rfl) (fun _ _ _ h => h) (Or.inl ⟨by rfl, ?_⟩) ?_ ?_
          rotate_left
          ·intro w'
           go_simp
           with_reducible rfl
          rotate_left
          ·simp only [Act.put, List.setIfInBounds_toArray, List.set_cons_zero, List.set_cons_succ, i64_w, i32_w]
           rfl
          refine pure_ (i := 9) (N := some 109) (v := ?_) (a' := ?_) #[true, true, true, true, true, true, true, true, false, true, false, false, false, false, false] rfl rfl (by kernel_rfl) (fun _ _ _ h => h) (Or.inl ⟨by rfl, ?_⟩) ?_ ?_
          rotate_left
          ·intro w'
           go_simp
           with_reducible rfl
          rotate_left
          ·simp only [Act.put, List.setIfInBounds_toArray, List.set_cons_zero, List.set_cons_succ, i64_w, i32_w]
           rfl
          refine pure_ (i := 10) (N := some 110) (v := ?_) (a' := ?_) #[true, true, true, true, true, true, true, true, false, true, true, false, false, false, false] rfl rfl (by kernel_rfl) (fun _ _ _ h => h) (Or.inl ⟨by rfl, ?_⟩) ?_ ?_
          rotate_left
          ·intro w'
           go_simp
           with_reducible rfl
          rotate_left
          ·simp only [Act.put, List.setIfInBounds_toArray, List.set_cons_zero, List.set_cons_succ, i64_w, i32_w]
           rfl
          refine take_ (i := 8) (N := some 108) (v := ?_) (a' := ?_) #[true, true, true, true, true, true, true, true, true, true, true, false, false, false, false] rfl rfl (by kernel_rfl) (fun _ _ _ h => h) (Or.inl ⟨by rfl, ?_⟩) hHeld ?_ ?_
          rotate_left
          ·rintro w' ⟨s0, s1, s2⟩
           go_simp
           with_reducible rfl
          rotate_left
          ·simp only [Act.put, List.setIfInBounds_toArray, List.set_cons_zero, List.set_cons_succ, i64_w, i32_w]
           rfl
          refine one_ (i := 11) (N := some 111) #[true, true, true, true, true, true, true, true, true, true, true, true, false, false, false] rfl rfl (by kernel_rfl) (by decide) (fun K hK => ?_)
          refine goes_ Try.func25 (by kernel_rfl) rfl #[.pointer (some ⟨g, o + i.toNat * 5, none⟩), .agg #[.int .i64 x.p, .int .i64 x.need, .int .i64 x.s], .bool a1, .bool (decide (x.need ≤ yran))] (by rfl) rfl rfl (by simp only [List.map_toArray, List.map_cons, List.map_nil]; rfl) ?_
          with_reducible refine (HCC.out).mono ?_
          rintro e w3 ⟨rfl, hk5, hb5, hx5⟩
          refine ⟨_, rfl, ?_⟩
          have HC4 := Aside0.mk (RefC_col HC3.out hcur i hi0 hli _ HYD.out _ hk5 hx5)
          have HB4 := Aside0.mk hb5
          obtain ⟨hce4, hfe4⟩ := lf_cells HC4.out.2.2.1 i hi0 hli _ (getD_set (by have := HYL1.out; omega) _)
          have E4 := hce4 4 _ rfl
          have F4 := hfe4 4
          clear hk5 hb5 hx5 hce4 hfe4
          refine hK.out _ _ ⟨(HB4.out.cell (World.block_lt_of_cell? wG _ HT0.out)).trans HT0.out, (HB4.out.cell (World.block_lt_of_cell? wG _ HT1.out)).trans HT1.out, (HB4.out.cell (World.block_lt_of_cell? wG _ HT2.out)).trans HT2.out⟩ (fun hHeld => ?_)
          clear hK K
          refine norm_ (a' := ?_) ?_ ?_
          rotate_left
          ·show Act.put _ (some 111) _ = _
           simp only [Act.put, List.setIfInBounds_toArray, List.set_cons_zero, List.set_cons_succ, i64_w, i32_w]
           rfl
          refine pure_ (i := 12) (N := some 112) (v := ?_) (a' := ?_) #[true, true, true, true, true, true, true, true, true, true, true, true, true, false, false] rfl rfl (by kernel_rfl) (fun _ _ _ h => h) (Or.inl ⟨by rfl, ?_⟩) ?_ ?_
          rotate_left
          ·intro w'
           go_simp
           with_reducible rfl
          rotate_left
          ·simp only [Act.put, List.setIfInBounds_toArray, List.set_cons_zero, List.set_cons_succ, i64_w, i32_w]
           rfl
          refine pure_ (i := 13) (N := some 113) (v := ?_) (a' := ?_) #[true, true, true, true, true, true, true, true, true, true, true, true, true, true, false] rfl rfl (by kernel_rfl) (fun _ _ _ h => h) (Or.inl ⟨by rfl, ?_⟩) ?_ ?_
          rotate_left
          ·intro w'
           go_simp
           with_reducible rfl
          rotate_left
          ·simp only [Act.put, List.setIfInBounds_toArray, List.set_cons_zero, List.set_cons_succ, i64_w, i32_w]
           rfl
          refine last_ (i := 14) (N := none) #[true, true, true, true, true, true, true, true, true, true, true, true, true, true, true] rfl rfl (by kernel_rfl) (by decide) (fun K hK => ?_)
          refine skip_ (w1 := ?_) (by rfl) rfl ?_ ?_
          rotate_left
          ·go_simp
           rfl
          refine hK.out _ _ ?_
          clear hK K
          refine done_ (by kernel_rfl) ?_
          have HC5 := Aside0.mk (RefC_put HC4.out i hi0 hli _ (getD_set (by have := HYL1.out; omega) _) 4 (by decide) (.bool (colL x.s a1 (decide (x.need ≤ yran)) (⟨yn + 1, yran, yreds, true, yred⟩ : S68)).1) ⟨(⟨yn + 1, yran, yreds, true, yred⟩ : S68).f0, (⟨yn + 1, yran, yreds, true, yred⟩ : S68).f1, (colL x.s a1 (decide (x.need ≤ yran)) (⟨yn + 1, yran, yreds, true, yred⟩ : S68)).2, (⟨yn + 1, yran, yreds, true, yred⟩ : S68).f3, (colL x.s a1 (decide (x.need ≤ yran)) (⟨yn + 1, yran, yreds, true, yred⟩ : S68)).1⟩ rfl)
          have HB5 := Aside0.mk (low_set HB4.out hgb (o + i.toNat * 5 + 4) (.bool (colL x.s a1 (decide (x.need ≤ yran)) (⟨yn + 1, yran, yreds, true, yred⟩ : S68)).1))
          clear HC4 HB4 HC3 HB3 HCC hHeld u0 u1 u2 E4 F4
          generalize w3.setCell ⟨g, o + i.toNat * 5 + 4, none⟩ (.bool (colL x.s a1 (decide (x.need ≤ yran)) (⟨yn + 1, yran, yreds, true, yred⟩ : S68)).1) = W5 at HC5 HB5 ⊢
          obtain ⟨hce5, hfe5⟩ := lf_cells HC5.out.2.2.1 i hi0 hli _ (getD_set (by rw [List.length_set]; have := HYL1.out; omega) _)
          have E3 := hce5 3 _ rfl
          have F3 := hfe5 3
          have E1 := hce5 1 _ rfl
          have F1 := hfe5 1
          clear hce5 hfe5
          go_wp2
          have HC6 := RefC_put (RefC_put HC5.out i hi0 hli _ (getD_set (by rw [List.length_set]; have := HYL1.out; omega) _) 3 (by decide) (.bool true) ⟨(⟨yn + 1, yran, yreds, true, yred⟩ : S68).f0, (⟨yn + 1, yran, yreds, true, yred⟩ : S68).f1, (colL x.s a1 (decide (x.need ≤ yran)) (⟨yn + 1, yran, yreds, true, yred⟩ : S68)).2, true, (colL x.s a1 (decide (x.need ≤ yran)) (⟨yn + 1, yran, yreds, true, yred⟩ : S68)).1⟩ rfl) i hi0 hli _ (getD_set (by rw [List.length_set, List.length_set]; have := HYL1.out; omega) _) 1 (by decide) (.int .i64 0) ⟨(⟨yn + 1, yran, yreds, true, yred⟩ : S68).f0, 0, (colL x.s a1 (decide (x.need ≤ yran)) (⟨yn + 1, yran, yreds, true, yred⟩ : S68)).2, true, (colL x.s a1 (decide (x.need ≤ yran)) (⟨yn + 1, yran, yreds, true, yred⟩ : S68)).1⟩ rfl
          have HB6 := low_set (low_set HB5.out hgb (o + i.toNat * 5 + 3) (.bool true)) hgb (o + i.toNat * 5 + 1) (.int .i64 0)
          simp only [List.set_set] at HC6
          exact ⟨⟨i + 1, _, _, by omega, by omega, by first | rfl | rw [HWI.out], ⟨by rw [show (i + 1).toNat = i.toNat + 1 by omega]; exact HS2.out⟩, ⟨by rw [show (i + 1).toNat = i.toNat + 1 by omega, HM3.out]; exact HC6⟩, ⟨HB6⟩⟩, by (try rw [HWI.out]); simp [intOf]; omega⟩
         | false =>
          have HM3 : Aside0 ((r.M ++ mkl k 0 (r.S.take (i.toNat + 1))).map cv = Mx) := ⟨by have := HM2.out; simpa using this⟩
          go_wp2
          go_quiet (fail)
          go_wp2
          have HC2 := Aside0.mk (RefC_drewN HC.out nq)
          have HB2 := Aside0.mk (pw_below_drewN HB.out nq)
          have HYL1 : Aside0 (i.toNat < ys.length) := ⟨by have := HYS.out; omega⟩
          have HYD := HYD0
          have HYB : Aside0 ((0 ≤ (⟨yn, yran, yreds, false, yred⟩ : S68).f0 ∧ (⟨yn, yran, yreds, false, yred⟩ : S68).f0 ≤ 1000000) ∧ (0 ≤ (⟨yn, yran, yreds, false, yred⟩ : S68).f2 ∧ (⟨yn, yran, yreds, false, yred⟩ : S68).f2 ≤ 1000000)) := ⟨by have := HYBx.out; simp only at this ⊢; omega⟩
          clear HC HB E0 E1 E3 E4 t0 t1 t2
          generalize wr.drewN nq = Wd at HC2 HB2 ⊢
          have u0 := (HB2.out.cell (World.block_lt_of_cell? wG _ HT0.out)).trans HT0.out
          have u1 := (HB2.out.cell (World.block_lt_of_cell? wG _ HT1.out)).trans HT1.out
          have u2 := (HB2.out.cell (World.block_lt_of_cell? wG _ HT2.out)).trans HT2.out
          refine start_ (n := 15) (S := fun w' => w'.cell? (ad.add (i.toNat * 3)) = some (.int .i64 x.p) ∧ w'.cell? ⟨(ad.add (i.toNat * 3)).block, (ad.add (i.toNat * 3)).off + 1, none⟩ = some (.int .i64 x.need) ∧ w'.cell? ⟨(ad.add (i.toNat * 3)).block, (ad.add (i.toNat * 3)).off + 2, none⟩ = some (.int .i64 x.s)) (ds := [14]) #[false, false, false, false, false, false, false, false, false, false, false, false, false, false, false] (by kernel_rfl) rfl rfl ⟨u0, u1, u2⟩ (fun hHeld => ?_)
          have HC3 := Aside0.mk (RefC_drew HC2.out)
          have HB3 := Aside0.mk (below_drew HB2.out)
          clear HC2 HB2 u0 u1 u2
          generalize Wd.drew = We at HC3 HB3 hHeld ⊢
          have u0 := hHeld.1
          have u1 := hHeld.2.1
          have u2 := hHeld.2.2
          obtain ⟨hgb, cur, hcur⟩ := lf_typed HC3.out.2.2.1
          obtain ⟨hce3, hfe3⟩ := lf_cells HC3.out.2.2.1 i hi0 hli _ HYD.out
          have HCC := Aside0.mk (colL_c wG We g (o + i.toNat * 5) cur _ x.p x.need x.s a1 (decide (x.need ≤ yran)) hcur hce3 hfe3 HB3.out hgb HYB.out HXS.out)
          clear hce3 hfe3
          refine pure_ (i := 0) (N := some 100) (v := ?_) (a' := ?_) #[true, false, false, false, false, false, false, false, false, false, false, false, false, false, false] rfl rfl (by kernel_rfl) (fun _ _ _ h => h) (Or.inl ⟨by rfl, ?_⟩) ?_ ?_
          rotate_left
          ·intro w'
           go_simp
           with_reducible rfl
          rotate_left
          ·simp only [Act.put, List.setIfInBounds_toArray, List.set_cons_zero, List.set_cons_succ, i64_w, i32_w]
           rfl
          refine pure_ (i := 1) (N := some 101) (v := ?_) (a' := ?_) #[true, true, false, false, false, false, false, false, false, false, false, false, false, false, false] rfl rfl (by kernel_rfl) (fun _ _ _ h => h) (Or.inl ⟨by rfl, ?_⟩) ?_ ?_
          rotate_left
          ·intro w'
           go_simp
           with_reducible rfl
          rotate_left
          ·simp only [Act.put, List.setIfInBounds_toArray, List.set_cons_zero, List.set_cons_succ, i64_w, i32_w]
           rfl
          refine pure_ (i := 2) (N := some 102) (v := ?_) (a' := ?_) #[true, true, true, false, false, false, false, false, false, false, false, false, false, false, false] rfl rfl (by kernel_rfl) (fun _ _ _ h => h) (Or.inl ⟨by rfl, ?_⟩) ?_ ?_
          rotate_left
          ·intro w'
           go_simp
           with_reducible rfl
          rotate_left
          ·simp only [Act.put, List.setIfInBounds_toArray, List.set_cons_zero, List.set_cons_succ, i64_w, i32_w]
           rfl
          refine pure_ (i := 3) (N := some 103) (v := ?_) (a' := ?_) #[true, true, true, true, false, false, false, false, false, false, false, false, false, false, false] rfl rfl (by kernel_rfl) (fun _ _ _ h => h) (Or.inl ⟨by rfl, ?_⟩) ?_ ?_
          rotate_left
          ·intro w'
           go_simp
           with_reducible rfl
          rotate_left
          ·simp only [Act.put, List.setIfInBounds_toArray, List.set_cons_zero, List.set_cons_succ, i64_w, i32_w]
           rfl
          refine pure_ (i := 4) (N := some 104) (v := ?_) (a' := ?_) #[true, true, true, true, true, false, false, false, false, false, false, false, false, false, false] rfl rfl (by kernel_rfl) (fun _ _ _ h => h) (Or.inl ⟨by rfl, ?_⟩) ?_ ?_
          rotate_left
          ·intro w'
           go_simp
           with_reducible rfl
          rotate_left
          ·simp only [Act.put, List.setIfInBounds_toArray, List.set_cons_zero, List.set_cons_succ, i64_w, i32_w]
           rfl
          refine pure_ (i := 5) (N := some 105) (v := ?_) (a' := ?_) #[true, true, true, true, true, true, false, false, false, false, false, false, false, false, false] rfl rfl (by kernel_rfl) (fun _ _ _ h => h) (Or.inl ⟨by rfl, ?_⟩) ?_ ?_
          rotate_left
          ·intro w'
           go_simp
           with_reducible rfl
          rotate_left
          ·simp only [Act.put, List.setIfInBounds_toArray, List.set_cons_zero, List.set_cons_succ, i64_w, i32_w]
           rfl
          refine pure_ (i := 6) (N := some 106) (v := ?_) (a' := ?_) #[true, true, true, true, true, true, true, false, false, false, false, false, false, false, false] rfl rfl (by kernel_rfl) (fun _ _ _ h => h) (Or.inl ⟨by rfl, ?_⟩) ?_ ?_
          rotate_left
          ·intro w'
           go_simp
           with_reducible rfl
          rotate_left
          ·simp only [Act.put, List.setIfInBounds_toArray, List.set_cons_zero, List.set_cons_succ, i64_w, i32_w]
           rfl
          refine pure_ (i := 7) (N := some 107) (v := ?_) (a' := ?_) #[true, true, true, true, true, true, true, true, false, false, false, false, false, false, false] rfl rfl (by kernel_rfl) (fun _ _ _ h => h) (Or.inl ⟨by rfl, ?_⟩) ?_ ?_
          rotate_left
          ·intro w'
           go_simp
           with_reducible rfl
          rotate_left
          ·simp only [Act.put, List.setIfInBounds_toArray, List.set_cons_zero, List.set_cons_succ, i64_w, i32_w]
           rfl
          refine pure_ (i := 9) (N := some 109) (v := ?_) (a' := ?_) #[true, true, true, true, true, true, true, true, false, true, false, false, false, false, false] rfl rfl (by kernel_rfl) (fun _ _ _ h => h) (Or.inl ⟨by rfl, ?_⟩) ?_ ?_
          rotate_left
          ·intro w'
           go_simp
           with_reducible rfl
          rotate_left
          ·simp only [Act.put, List.setIfInBounds_toArray, List.set_cons_zero, List.set_cons_succ, i64_w, i32_w]
           rfl
          refine pure_ (i := 10) (N := some 110) (v := ?_) (a' := ?_) #[true, true, true, true, true, true, true, true, false, true, true, false, false, false, false] rfl rfl (by kernel_rfl) (fun _ _ _ h => h) (Or.inl ⟨by rfl, ?_⟩) ?_ ?_
          rotate_left
          ·intro w'
           go_simp
           with_reducible rfl
          rotate_left
          ·simp only [Act.put, List.setIfInBounds_toArray, List.set_cons_zero, List.set_cons_succ, i64_w, i32_w]
           rfl
          refine take_ (i := 8) (N := some 108) (v := ?_) (a' := ?_) #[true, true, true, true, true, true, true, true, true, true, true, false, false, false, false] rfl rfl (by kernel_rfl) (fun _ _ _ h => h) (Or.inl ⟨by rfl, ?_⟩) hHeld ?_ ?_
          rotate_left
          ·rintro w' ⟨s0, s1, s2⟩
           go_simp
           with_reducible rfl
          rotate_left
          ·simp only [Act.put, List.setIfInBounds_toArray, List.set_cons_zero, List.set_cons_succ, i64_w, i32_w]
           rfl
          refine one_ (i := 11) (N := some 111) #[true, true, true, true, true, true, true, true, true, true, true, true, false, false, false] rfl rfl (by kernel_rfl) (by decide) (fun K hK => ?_)
          refine goes_ Try.func25 (by kernel_rfl) rfl #[.pointer (some ⟨g, o + i.toNat * 5, none⟩), .agg #[.int .i64 x.p, .int .i64 x.need, .int .i64 x.s], .bool a1, .bool (decide (x.need ≤ yran))] (by rfl) rfl rfl (by simp only [List.map_toArray, List.map_cons, List.map_nil]; rfl) ?_
          with_reducible refine (HCC.out).mono ?_
          rintro e w3 ⟨rfl, hk5, hb5, hx5⟩
          refine ⟨_, rfl, ?_⟩
          have HC4 := Aside0.mk (RefC_col HC3.out hcur i hi0 hli _ HYD.out _ hk5 hx5)
          have HB4 := Aside0.mk hb5
          obtain ⟨hce4, hfe4⟩ := lf_cells HC4.out.2.2.1 i hi0 hli _ (getD_set (by have := HYL1.out; omega) _)
          have E4 := hce4 4 _ rfl
          have F4 := hfe4 4
          clear hk5 hb5 hx5 hce4 hfe4
          refine hK.out _ _ ⟨(HB4.out.cell (World.block_lt_of_cell? wG _ HT0.out)).trans HT0.out, (HB4.out.cell (World.block_lt_of_cell? wG _ HT1.out)).trans HT1.out, (HB4.out.cell (World.block_lt_of_cell? wG _ HT2.out)).trans HT2.out⟩ (fun hHeld => ?_)
          clear hK K
          refine norm_ (a' := ?_) ?_ ?_
          rotate_left
          ·show Act.put _ (some 111) _ = _
           simp only [Act.put, List.setIfInBounds_toArray, List.set_cons_zero, List.set_cons_succ, i64_w, i32_w]
           rfl
          refine pure_ (i := 12) (N := some 112) (v := ?_) (a' := ?_) #[true, true, true, true, true, true, true, true, true, true, true, true, true, false, false] rfl rfl (by kernel_rfl) (fun _ _ _ h => h) (Or.inl ⟨by rfl, ?_⟩) ?_ ?_
          rotate_left
          ·intro w'
           go_simp
           with_reducible rfl
          rotate_left
          ·simp only [Act.put, List.setIfInBounds_toArray, List.set_cons_zero, List.set_cons_succ, i64_w, i32_w]
           rfl
          refine pure_ (i := 13) (N := some 113) (v := ?_) (a' := ?_) #[true, true, true, true, true, true, true, true, true, true, true, true, true, true, false] rfl rfl (by kernel_rfl) (fun _ _ _ h => h) (Or.inl ⟨by rfl, ?_⟩) ?_ ?_
          rotate_left
          ·intro w'
           go_simp
           with_reducible rfl
          rotate_left
          ·simp only [Act.put, List.setIfInBounds_toArray, List.set_cons_zero, List.set_cons_succ, i64_w, i32_w]
           rfl
          refine last_ (i := 14) (N := none) #[true, true, true, true, true, true, true, true, true, true, true, true, true, true, true] rfl rfl (by kernel_rfl) (by decide) (fun K hK => ?_)
          refine skip_ (w1 := ?_) (by rfl) rfl ?_ ?_
          rotate_left
          ·go_simp
           rfl
          refine hK.out _ _ ?_
          clear hK K
          refine done_ (by kernel_rfl) ?_
          have HC5 := Aside0.mk (RefC_put HC4.out i hi0 hli _ (getD_set (by have := HYL1.out; omega) _) 4 (by decide) (.bool (colL x.s a1 (decide (x.need ≤ yran)) (⟨yn, yran, yreds, false, yred⟩ : S68)).1) ⟨(⟨yn, yran, yreds, false, yred⟩ : S68).f0, (⟨yn, yran, yreds, false, yred⟩ : S68).f1, (colL x.s a1 (decide (x.need ≤ yran)) (⟨yn, yran, yreds, false, yred⟩ : S68)).2, (⟨yn, yran, yreds, false, yred⟩ : S68).f3, (colL x.s a1 (decide (x.need ≤ yran)) (⟨yn, yran, yreds, false, yred⟩ : S68)).1⟩ rfl)
          have HB5 := Aside0.mk (low_set HB4.out hgb (o + i.toNat * 5 + 4) (.bool (colL x.s a1 (decide (x.need ≤ yran)) (⟨yn, yran, yreds, false, yred⟩ : S68)).1))
          clear HC4 HB4 HC3 HB3 HCC hHeld u0 u1 u2 E4 F4
          generalize w3.setCell ⟨g, o + i.toNat * 5 + 4, none⟩ (.bool (colL x.s a1 (decide (x.need ≤ yran)) (⟨yn, yran, yreds, false, yred⟩ : S68)).1) = W5 at HC5 HB5 ⊢
          obtain ⟨hce5, hfe5⟩ := lf_cells HC5.out.2.2.1 i hi0 hli _ (getD_set (by rw [List.length_set]; have := HYL1.out; omega) _)
          have E3 := hce5 3 _ rfl
          have F3 := hfe5 3
          have E1 := hce5 1 _ rfl
          have F1 := hfe5 1
          clear hce5 hfe5
          go_wp2
          have HC6 := RefC_put (RefC_put HC5.out i hi0 hli _ (getD_set (by rw [List.length_set]; have := HYL1.out; omega) _) 3 (by decide) (.bool true) ⟨(⟨yn, yran, yreds, false, yred⟩ : S68).f0, (⟨yn, yran, yreds, false, yred⟩ : S68).f1, (colL x.s a1 (decide (x.need ≤ yran)) (⟨yn, yran, yreds, false, yred⟩ : S68)).2, true, (colL x.s a1 (decide (x.need ≤ yran)) (⟨yn, yran, yreds, false, yred⟩ : S68)).1⟩ rfl) i hi0 hli _ (getD_set (by rw [List.length_set, List.length_set]; have := HYL1.out; omega) _) 1 (by decide) (.int .i64 0) ⟨(⟨yn, yran, yreds, false, yred⟩ : S68).f0, 0, (colL x.s a1 (decide (x.need ≤ yran)) (⟨yn, yran, yreds, false, yred⟩ : S68)).2, true, (colL x.s a1 (decide (x.need ≤ yran)) (⟨yn, yran, yreds, false, yred⟩ : S68)).1⟩ rfl
          have HB6 := low_set (low_set HB5.out hgb (o + i.toNat * 5 + 3) (.bool true)) hgb (o + i.toNat * 5 + 1) (.int .i64 0)
          simp only [List.set_set] at HC6
          exact ⟨⟨i + 1, _, _, by omega, by omega, by first | rfl | rw [HWI.out], ⟨by rw [show (i + 1).toNat = i.toNat + 1 by omega]; exact HS2.out⟩, ⟨by rw [show (i + 1).toNat = i.toNat + 1 by omega, HM3.out]; exact HC6⟩, ⟨HB6⟩⟩, by (try rw [HWI.out]); simp [intOf]; omega⟩
        ·have hq : tq a1 k x = x := if_neg hd
         have hm : mq k i.toNat x = [] := if_neg hd
         have HS2 := HSM.out
         have HC2 := HC.out
         rw [e3 hq] at HS2
         rw [← List.append_nil (mkl k 0 (List.take i.toNat r.S)), ← hm, ← e2] at HC2
         have HS3 := Aside0.mk HS2
         have HC3 := Aside0.mk HC2
         have z : (k % x.p != 0) = true := by rw [Int.tmod_eq_emod_of_nonneg hk0] at hd; simpa using hd
         clear HS2 HC2 HSM HC e1 e2 e3 hq hm hd hce hfe hml
         go_wp2
         exact ⟨⟨i + 1, vm, ys, by omega, by omega, by first | rfl | rw [hwi], ⟨by rw [show (i + 1).toNat = i.toNat + 1 by omega]; exact HS3.out⟩, ⟨by rw [show (i + 1).toNat = i.toNat + 1 by omega]; exact HC3.out⟩, HB⟩, by (try rw [hwi]); simp [intOf]; omega⟩
       ·have hie : i = (l0.length : Int) := by omega
        have hzz : decide (i < (l0.length : Int)) = false := decide_eq_false hli
        have hrl := HRL.out
        have HS1 := HSM.out
        have HC0_ := HC.out
        clear HC
        rw [show i.toNat = r.S.length by omega, mid_all] at HS1
        rw [show i.toNat = r.S.length by omega, List.take_length] at HC0_
        have ok1 : ∀ x ∈ r.S.map (tq a1 k), okS a1 (k + 1) x := by
         intro x hx
         obtain ⟨y, hy, rfl⟩ := List.mem_map.1 hx
         exact tq_ok (HOK.out y hy)
        have ob1 : ∀ x ∈ r.S.map (tq a1 k), okB (k + 1) x := by
         intro x hx
         obtain ⟨y, hy, rfl⟩ := List.mem_map.1 hx
         exact tq_bd hk0 (HBD.out y hy)
        have hpp : ∀ (j : Nat) (x : St), (r.S.map (tq a1 k))[j]? = some x → (rd_T66 l0 (j : Int)).f0 = x.p ∧ (rd_T66 l0 (j : Int)).f1 = x.need := by
         intro j x hx
         rw [List.getElem?_map, Option.map_eq_some_iff] at hx
         obtain ⟨z, hz, rfl⟩ := hx
         obtain ⟨b1, b2, b3⟩ := tq_alike a1 k z
         obtain ⟨c1, c2, _⟩ := HPA.out j z hz
         exact ⟨(b1.trans c1).symm, (b2.trans c2).symm⟩
        have hyl : ys.length = l0.length := by have := HS1.1; rw [List.length_map] at this; omega
        have PICK : ∀ red W', RefC wG W' O (.slice Ax l0.length cx) vt vm ys r.T ((r.M ++ mkl k 0 r.S).map cv) → Below wG.heap.size wG W' → Calls Try.prog 26 #[.slice A0 l0.length c0, .slice Ax l0.length cx, .int .i64 k, .bool red] W' fun e w' => e = .returned (.int .i64 (firstS red (r.S.map (tq a1 k)))) ∧ ∃ n, w' = W'.drewN n := by
         intro red W' hW hBW
         obtain ⟨q1, q2, q3⟩ := Kd.Q_reads' hW.2.2.1
         have := tocsinref21_pick.calls 2000 A0 c0 l0 Ax cx ys k red _ W' (Kd.C_below HR0.out (below_step HW1.out hBW)) HC0.out q3 (by omega) (pick_is a1 red (k + 1) k (by omega) _ l0 ys HS1 (by rw [List.length_map]; omega) (by rw [List.length_map]; have := HLA.out; omega) ok1 ob1 hpp)
         rw [hyl] at this
         exact this.mono (fun e w' h => ⟨h.1, h.2.out⟩)
        have P1 := Aside0.mk (PICK true)
        have P2 := Aside0.mk (PICK false)
        have HS1 := Aside0.mk HS1
        have HC := Aside0.mk HC0_
        have HOK1 := Aside0.mk ok1
        have HYL := Aside0.mk hyl
        obtain ⟨At, ct, rfl⟩ := Kd.R_slice HC.out.2.2.2.1
        clear HC0_ ok1 ob1 hpp PICK hyl hrl HSM hi hi0 hli
        subst hie
        have hb1 := firstS_bd true (r.S.map (tq a1 k))
        have hb2 := firstS_bd false (r.S.map (tq a1 k))
        have HSL : Aside0 ((r.S.map (tq a1 k)).length = l0.length) := ⟨by rw [List.length_map]; exact HRL.out⟩
        rw [HSL.out] at hb1 hb2
        have GET : Aside0 (∀ (b : Int) (c : Bool), 0 ≤ b → b < l0.length → firstS c (r.S.map (tq a1 k)) = b → ∃ g o x y, Ax = some ⟨g, o, none⟩ ∧ (r.S.map (tq a1 k)).getD b.toNat default = x ∧ ys.getD b.toNat z68 = y ∧ Sim a1 x y ∧ x.n ≠ -1 ∧ 0 ≤ y.f1 ∧ y.f1 ≤ 1000 ∧ SimL a1 ((r.S.map (tq a1 k)).set b.toNat (decSt x)) (ys.set b.toNat ⟨y.f0, y.f1 + 1, y.f2, y.f3, y.f4⟩)) := ⟨by
         intro b c h0 h1 hf
         obtain ⟨x, hx⟩ : ∃ x, (r.S.map (tq a1 k))[b.toNat]? = some x := ⟨_, List.getElem?_eq_getElem (by have := HSL.out; omega)⟩
         obtain ⟨y, hy, hyd, hsim⟩ := sim_get HS1.out b.toNat x hx
         obtain ⟨g, o, cap, hv, _⟩ := Kd.Q_form HC.out.2.2.1 (by have := HYL.out; omega)
         injection hv with hv1 hv2 hv3
         have hxm := List.mem_of_getElem? hx
         have ho := HOK1.out x hxm
         have hxd : (r.S.map (tq a1 k)).getD b.toNat default = x := by rw [List.getD_eq_getElem?_getD, hx]; rfl
         have hlt : 0 < x.left := by
          rcases firstS_spec c (r.S.map (tq a1 k)) with ⟨e, _⟩ | ⟨b', x', e, hx', _, hl', _⟩
          ·omega
          ·have : b' = b.toNat := by omega
           subst this
           rw [hx] at hx'
           injection hx' with hx'
           subst hx'
           exact hl'
         have hn : x.n ≠ -1 := fun hn => by have := (ho.2.2.2.2.2.2.2.2.2.2.1 hn).2; omega
         have g3 := (hsim.here hn).2.2.1
         have hxb : okB (k + 1) x := by
          obtain ⟨z, hz, rfl⟩ := List.mem_map.1 hxm
          exact tq_bd hk0 (HBD.out z hz)
         have hnd := hxb.2.1
         have hlf := ho.2.2.2.2.2.2.2.2.1
         exact ⟨g, o, x, y, hv1, hxd, hyd, hsim, hn, by omega, by omega, sim_set HS1.out b.toNat _ _ (sim_dec hsim hn)⟩⟩
        by_cases q : firstS true (r.S.map (tq a1 k)) = -1
        ·have PP1 : Aside0 (∀ W', RefC wG W' O (.slice Ax l0.length cx) (.slice At r.T.length ct) vm ys r.T ((r.M ++ mkl k 0 r.S).map cv) → Below wG.heap.size wG W' → Calls Try.prog 26 #[.slice A0 l0.length c0, .slice Ax l0.length cx, .int .i64 k, .bool true] W' fun e w' => e = .returned (.int .i64 (-1)) ∧ ∃ n, w' = W'.drewN n) := ⟨fun W' h1 h2 => by have := P1.out W' h1 h2; rw [q] at this; exact this⟩
         cases a1 with
         | false =>
          have HEA : Aside0 (atS false (r.S.map (tq false k)) = -1) := ⟨by unfold atS; rw [if_neg (by simp), q]⟩
          have HS2 : Aside0 (SimL false (decS (r.S.map (tq false k)) (atS false (r.S.map (tq false k)))) ys) := ⟨by rw [HEA.out]; unfold decS; rw [if_pos rfl]; exact HS1.out⟩
          clear P1 P2 hb1 hb2 GET q
          go_wp2_with (first | (go_at_call 26; (with_reducible refine (PP1.out _ HC.out HB.out).mono ?_); rintro e w7 ⟨rfl, nd, rfl⟩; have HC1 := Aside0.mk (RefC_drewN HC.out nd); have HB1 := Aside0.mk (pw_below_drewN HB.out nd); clear HC HB PP1; generalize wr.drewN nd = W1 at HC1 HB1 ⊢; have cT : W1.cell? ⟨O, 0, none⟩ = some (.slice At r.T.length ct) := (blk_cell HC1.out.1 0).trans rfl) | ((with_reducible refine gate_builtin (b := .append) (xs := #[.tmp 146, .tmp 148]) rfl ?_); at_builtin; refine Kd.R_append (Kd.int .i64) (w0 := wG) wG.heap.size rfl (.tmp 146) (.tmp 148) 25 3 (.int .i64 0) 8 rfl Try.underlying25 infoInt rfl (by decide) (by omega) (.slice At r.T.length ct) r.T (-1) [.int .i64 (-1)] (fun _ => True) (fun _ => False) rfl ?aX ?aP (fun _ hk => hk.elim) (fun _ _ => trivial) ?aO ?aB ?aS ?aL ?_; (case aX => first | rfl | (refine Eq.trans (b := .slice (some ⟨W1.heap.size, 0, none⟩) 1 1) rfl ?_; simp)); (case aP => exact rfl); (case aO => exact HC1.out.2.2.2.1); (case aB => exact HB1.out); (case aS => exact below_size HB1.out); (case aL => have := HTL.out; omega); intro v1 w1 ho hb hg hat; obtain ⟨A1_, c1_, rfl⟩ := Kd.R_slice ho; have hRw := blk_grown HC1.out.1 hg (Kd.R_ne HC1.out.2.2.2.1 HC1.out.1 (by decide)); have cw0 : w1.cell? ⟨O, 0, none⟩ = some (.slice At r.T.length ct) := (blk_cell hRw 0).trans rfl; have fw0 := blk_frozen hRw 0; have HC9 := Aside0.mk (RefC_T HC1.out hg ho); have HB9 := Aside0.mk (low_set hb HGO.out 0 (.slice A1_ (r.T ++ [(-1)]).length c1_)); clear ho hb hat hg hRw))
          rw [show (r.T ++ [((-1) : Int)]).length = r.T.length + 1 by simp] at HC9 HB9
          exact ⟨⟨k + 1, _, _, _, by omega, by omega, by first | rfl | rw [HWK.out], ⟨by rw [HNX.out]; exact HS2.out⟩, ⟨by rw [HNX.out]; show RefC wG _ O _ _ _ _ (r.T ++ [atS _ (r.S.map (tq _ k))]) ((r.M ++ mkl k 0 r.S).map cv); rw [HEA.out]; exact HC9.out⟩, HB9⟩, by (try rw [HWK.out]); simp [intOf]; omega⟩
         | true =>
          by_cases q2 : firstS false (r.S.map (tq true k)) = -1
          ·have HEA : Aside0 (atS true (r.S.map (tq true k)) = -1) := ⟨by unfold atS; rw [if_pos ⟨q, rfl⟩, q2]⟩
           have HS2 : Aside0 (SimL true (decS (r.S.map (tq true k)) (atS true (r.S.map (tq true k)))) ys) := ⟨by rw [HEA.out]; unfold decS; rw [if_pos rfl]; exact HS1.out⟩
           have PP2 : Aside0 (∀ W', RefC wG W' O (.slice Ax l0.length cx) (.slice At r.T.length ct) vm ys r.T ((r.M ++ mkl k 0 r.S).map cv) → Below wG.heap.size wG W' → Calls Try.prog 26 #[.slice A0 l0.length c0, .slice Ax l0.length cx, .int .i64 k, .bool false] W' fun e w' => e = .returned (.int .i64 (-1)) ∧ ∃ n, w' = W'.drewN n) := ⟨fun W' h1 h2 => by have := P2.out W' h1 h2; rw [q2] at this; exact this⟩
           clear P1 P2 hb1 hb2 GET q q2
           go_wp2_with (first | (go_at_call 26; (with_reducible refine (PP1.out _ HC.out HB.out).mono ?_); rintro e w7 ⟨rfl, nd, rfl⟩; have HC1 := Aside0.mk (RefC_drewN HC.out nd); have HB1 := Aside0.mk (pw_below_drewN HB.out nd); clear HC HB PP1; generalize wr.drewN nd = W1 at HC1 HB1 ⊢; have cT : W1.cell? ⟨O, 0, none⟩ = some (.slice At r.T.length ct) := (blk_cell HC1.out.1 0).trans rfl) | (go_at_call 26; (with_reducible refine (PP2.out _ HC1.out HB1.out).mono ?_); rintro e w8 ⟨rfl, nd2, rfl⟩; have n0_ := Aside0.mk (RefC_drewN HC1.out nd2); have n1_ := Aside0.mk (pw_below_drewN HB1.out nd2); clear HC1 HB1 PP2 cT; have HC1 := n0_; have HB1 := n1_; clear n0_ n1_; generalize W1.drewN nd2 = W1 at HC1 HB1 ⊢; have cT : W1.cell? ⟨O, 0, none⟩ = some (.slice At r.T.length ct) := (blk_cell HC1.out.1 0).trans rfl) | ((with_reducible refine gate_builtin (b := .append) (xs := #[.tmp 146, .tmp 148]) rfl ?_); at_builtin; refine Kd.R_append (Kd.int .i64) (w0 := wG) wG.heap.size rfl (.tmp 146) (.tmp 148) 25 3 (.int .i64 0) 8 rfl Try.underlying25 infoInt rfl (by decide) (by omega) (.slice At r.T.length ct) r.T (-1) [.int .i64 (-1)] (fun _ => True) (fun _ => False) rfl ?aX ?aP (fun _ hk => hk.elim) (fun _ _ => trivial) ?aO ?aB ?aS ?aL ?_; (case aX => first | rfl | (refine Eq.trans (b := .slice (some ⟨W1.heap.size, 0, none⟩) 1 1) rfl ?_; simp)); (case aP => exact rfl); (case aO => exact HC1.out.2.2.2.1); (case aB => exact HB1.out); (case aS => exact below_size HB1.out); (case aL => have := HTL.out; omega); intro v1 w1 ho hb hg hat; obtain ⟨A1_, c1_, rfl⟩ := Kd.R_slice ho; have hRw := blk_grown HC1.out.1 hg (Kd.R_ne HC1.out.2.2.2.1 HC1.out.1 (by decide)); have cw0 : w1.cell? ⟨O, 0, none⟩ = some (.slice At r.T.length ct) := (blk_cell hRw 0).trans rfl; have fw0 := blk_frozen hRw 0; have HC9 := Aside0.mk (RefC_T HC1.out hg ho); have HB9 := Aside0.mk (low_set hb HGO.out 0 (.slice A1_ (r.T ++ [(-1)]).length c1_)); clear ho hb hat hg hRw))
           rw [show (r.T ++ [((-1) : Int)]).length = r.T.length + 1 by simp] at HC9 HB9
           exact ⟨⟨k + 1, _, _, _, by omega, by omega, by first | rfl | rw [HWK.out], ⟨by rw [HNX.out]; exact HS2.out⟩, ⟨by rw [HNX.out]; show RefC wG _ O _ _ _ _ (r.T ++ [atS _ (r.S.map (tq _ k))]) ((r.M ++ mkl k 0 r.S).map cv); rw [HEA.out]; exact HC9.out⟩, HB9⟩, by (try rw [HWK.out]); simp [intOf]; omega⟩
          ·have HEA : Aside0 (atS true (r.S.map (tq true k)) = firstS false (r.S.map (tq true k))) := ⟨by unfold atS; rw [if_pos ⟨q, rfl⟩]⟩
           have hb0 : 0 ≤ firstS false (r.S.map (tq true k)) := by omega
           have hbl : firstS false (r.S.map (tq true k)) < (l0.length : Int) := by omega
           obtain ⟨g, o, x, y, rfl, hxd, hyd, hsim, hn, hf0, hf1, hs2⟩ := GET.out _ false hb0 hbl rfl
           have HS2 : Aside0 (SimL true (decS (r.S.map (tq true k)) (atS true (r.S.map (tq true k)))) (ys.set (firstS false (r.S.map (tq true k))).toNat ⟨y.f0, y.f1 + 1, y.f2, y.f3, y.f4⟩)) := ⟨by rw [HEA.out]; unfold decS; rw [if_neg q2, hxd]; exact hs2⟩
           have PP2 := P2
           have HYD := Aside0.mk hyd
           have hwf : wrap64 (y.f1 + 1) = y.f1 + 1 := by simp only [wrap64]; omega
           clear P1 P2 hb1 hb2 GET hxd hyd hsim hn hs2 hf0 hf1
           generalize firstS false (r.S.map (tq true k)) = b at *
           have zb1 : decide (b < 0) = false := decide_eq_false (by omega)
           have zb2 : decide (0 ≤ b) = true := decide_eq_true hb0
           go_wp2_with (first | (go_at_call 26; (with_reducible refine (PP1.out _ HC.out HB.out).mono ?_); rintro e w7 ⟨rfl, nd, rfl⟩; have HC1 := Aside0.mk (RefC_drewN HC.out nd); have HB1 := Aside0.mk (pw_below_drewN HB.out nd); clear HC HB PP1; generalize wr.drewN nd = W1 at HC1 HB1 ⊢; have cT : W1.cell? ⟨O, 0, none⟩ = some (.slice At r.T.length ct) := (blk_cell HC1.out.1 0).trans rfl) | (go_at_call 26; (with_reducible refine (PP2.out _ HC1.out HB1.out).mono ?_); rintro e w8 ⟨rfl, nd2, rfl⟩; have n0_ := Aside0.mk (RefC_drewN HC1.out nd2); have n1_ := Aside0.mk (pw_below_drewN HB1.out nd2); clear HC1 HB1 PP2 cT; have HC1 := n0_; have HB1 := n1_; clear n0_ n1_; generalize W1.drewN nd2 = W1 at HC1 HB1 ⊢; have cT : W1.cell? ⟨O, 0, none⟩ = some (.slice At r.T.length ct) := (blk_cell HC1.out.1 0).trans rfl; obtain ⟨hce, hfe⟩ := lf_cells HC1.out.2.2.1 b hb0 hbl y HYD.out; have E1 : W1.cell? ⟨g, o + b.toNat * 5 + 1, none⟩ = some (.int .i64 y.f1) := hce 1 _ rfl; have F1 := hfe 1; obtain ⟨hgb, cur, hcur⟩ := lf_typed HC1.out.2.2.1; have hOg := blk_ne HC1.out.1 hcur (by decide); have hgO := Ne.symm hOg; have HC2 := Aside0.mk (RefC_put HC1.out b hb0 hbl y HYD.out 1 (by decide) (.int .i64 (y.f1 + 1)) ⟨y.f0, y.f1 + 1, y.f2, y.f3, y.f4⟩ rfl); have HB2 := Aside0.mk (low_set HB1.out hgb (o + b.toNat * 5 + 1) (.int .i64 (y.f1 + 1))); clear hce hfe hcur HC1 HB1) | ((with_reducible refine gate_builtin (b := .append) (xs := #[.tmp 146, .tmp 148]) rfl ?_); at_builtin; refine Kd.R_append (Kd.int .i64) (w0 := wG) wG.heap.size rfl (.tmp 146) (.tmp 148) 25 3 (.int .i64 0) 8 rfl Try.underlying25 infoInt rfl (by decide) (by omega) (.slice At r.T.length ct) r.T (b) [.int .i64 (b)] (fun _ => True) (fun _ => False) rfl ?aX ?aP (fun _ hk => hk.elim) (fun _ _ => trivial) ?aO ?aB ?aS ?aL ?_; (case aX => first | rfl | (refine Eq.trans (b := .slice (some ⟨W1.heap.size, 0, none⟩) 1 1) rfl ?_; simp)); (case aP => exact rfl); (case aO => exact HC2.out.2.2.2.1); (case aB => exact HB2.out); (case aS => exact below_size HB2.out); (case aL => have := HTL.out; omega); intro v1 w1 ho hb hg hat; obtain ⟨A1_, c1_, rfl⟩ := Kd.R_slice ho; have hRw := blk_grown HC2.out.1 hg (Kd.R_ne HC2.out.2.2.2.1 HC2.out.1 (by decide)); have cw0 : w1.cell? ⟨O, 0, none⟩ = some (.slice At r.T.length ct) := (blk_cell hRw 0).trans rfl; have fw0 := blk_frozen hRw 0; have HC9 := Aside0.mk (RefC_T HC2.out hg ho); have HB9 := Aside0.mk (low_set hb HGO.out 0 (.slice A1_ (r.T ++ [(b)]).length c1_)); clear ho hb hat hg hRw))
           rw [show (r.T ++ [(b : Int)]).length = r.T.length + 1 by simp] at HC9 HB9
           exact ⟨⟨k + 1, _, _, _, by omega, by omega, by first | rfl | rw [HWK.out], ⟨by rw [HNX.out]; exact HS2.out⟩, ⟨by rw [HNX.out]; show RefC wG _ O _ _ _ _ (r.T ++ [atS _ (r.S.map (tq _ k))]) ((r.M ++ mkl k 0 r.S).map cv); rw [HEA.out]; exact HC9.out⟩, HB9⟩, by (try rw [HWK.out]); simp [intOf]; omega⟩
        ·have HEA : Aside0 (atS a1 (r.S.map (tq a1 k)) = firstS true (r.S.map (tq a1 k))) := ⟨by unfold atS; rw [if_neg (by simp [q])]⟩
         have hb0 : 0 ≤ firstS true (r.S.map (tq a1 k)) := by omega
         have hbl : firstS true (r.S.map (tq a1 k)) < (l0.length : Int) := by omega
         obtain ⟨g, o, x, y, rfl, hxd, hyd, hsim, hn, hf0, hf1, hs2⟩ := GET.out _ true hb0 hbl rfl
         have HS2 : Aside0 (SimL a1 (decS (r.S.map (tq a1 k)) (atS a1 (r.S.map (tq a1 k)))) (ys.set (firstS true (r.S.map (tq a1 k))).toNat ⟨y.f0, y.f1 + 1, y.f2, y.f3, y.f4⟩)) := ⟨by rw [HEA.out]; unfold decS; rw [if_neg q, hxd]; exact hs2⟩
         have PP1 := P1
         have HYD := Aside0.mk hyd
         have hwf : wrap64 (y.f1 + 1) = y.f1 + 1 := by simp only [wrap64]; omega
         clear P1 P2 hb1 hb2 GET hxd hyd hsim hn hs2 hf0 hf1
         generalize firstS true (r.S.map (tq a1 k)) = b at *
         have zb1 : decide (b < 0) = false := decide_eq_false (by omega)
         have zb2 : decide (0 ≤ b) = true := decide_eq_true hb0
         go_wp2_with (first | (go_at_call 26; (with_reducible refine (PP1.out _ HC.out HB.out).mono ?_); rintro e w7 ⟨rfl, nd, rfl⟩; have HC1 := Aside0.mk (RefC_drewN HC.out nd); have HB1 := Aside0.mk (pw_below_drewN HB.out nd); clear HC HB PP1; generalize wr.drewN nd = W1 at HC1 HB1 ⊢; have cT : W1.cell? ⟨O, 0, none⟩ = some (.slice At r.T.length ct) := (blk_cell HC1.out.1 0).trans rfl; obtain ⟨hce, hfe⟩ := lf_cells HC1.out.2.2.1 b hb0 hbl y HYD.out; have E1 : W1.cell? ⟨g, o + b.toNat * 5 + 1, none⟩ = some (.int .i64 y.f1) := hce 1 _ rfl; have F1 := hfe 1; obtain ⟨hgb, cur, hcur⟩ := lf_typed HC1.out.2.2.1; have hOg := blk_ne HC1.out.1 hcur (by decide); have hgO := Ne.symm hOg; have HC2 := Aside0.mk (RefC_put HC1.out b hb0 hbl y HYD.out 1 (by decide) (.int .i64 (y.f1 + 1)) ⟨y.f0, y.f1 + 1, y.f2, y.f3, y.f4⟩ rfl); have HB2 := Aside0.mk (low_set HB1.out hgb (o + b.toNat * 5 + 1) (.int .i64 (y.f1 + 1))); clear hce hfe hcur HC1 HB1) | ((with_reducible refine gate_builtin (b := .append) (xs := #[.tmp 146, .tmp 148]) rfl ?_); at_builtin; refine Kd.R_append (Kd.int .i64) (w0 := wG) wG.heap.size rfl (.tmp 146) (.tmp 148) 25 3 (.int .i64 0) 8 rfl Try.underlying25 infoInt rfl (by decide) (by omega) (.slice At r.T.length ct) r.T (b) [.int .i64 (b)] (fun _ => True) (fun _ => False) rfl ?aX ?aP (fun _ hk => hk.elim) (fun _ _ => trivial) ?aO ?aB ?aS ?aL ?_; (case aX => first | rfl | (refine Eq.trans (b := .slice (some ⟨W1.heap.size, 0, none⟩) 1 1) rfl ?_; simp)); (case aP => exact rfl); (case aO => exact HC2.out.2.2.2.1); (case aB => exact HB2.out); (case aS => exact below_size HB2.out); (case aL => have := HTL.out; omega); intro v1 w1 ho hb hg hat; obtain ⟨A1_, c1_, rfl⟩ := Kd.R_slice ho; have hRw := blk_grown HC2.out.1 hg (Kd.R_ne HC2.out.2.2.2.1 HC2.out.1 (by decide)); have cw0 : w1.cell? ⟨O, 0, none⟩ = some (.slice At r.T.length ct) := (blk_cell hRw 0).trans rfl; have fw0 := blk_frozen hRw 0; have HC9 := Aside0.mk (RefC_T HC2.out hg ho); have HB9 := Aside0.mk (low_set hb HGO.out 0 (.slice A1_ (r.T ++ [(b)]).length c1_)); clear ho hb hat hg hRw))
         rw [show (r.T ++ [(b : Int)]).length = r.T.length + 1 by simp] at HC9 HB9
         exact ⟨⟨k + 1, _, _, _, by omega, by omega, by first | rfl | rw [HWK.out], ⟨by rw [HNX.out]; exact HS2.out⟩, ⟨by rw [HNX.out]; show RefC wG _ O _ _ _ _ (r.T ++ [atS _ (r.S.map (tq _ k))]) ((r.M ++ mkl k 0 r.S).map cv); rw [HEA.out]; exact HC9.out⟩, HB9⟩, by (try rw [HWK.out]); simp [intOf]; omega⟩
     ·have hie : k = a2 := by omega
      have hz : decide (k < a2) = false := decide_eq_false hlt
      subst hie
      have hg0 := (HB.out.block w.heap.size (blk_lt HW2.out)).trans HW2.out
      have HGG := Aside0.mk hg0
      have hg1 : wr.cell? ⟨w.heap.size, 0, none⟩ = some (.slice none 0 0) := (blk_cell hg0 0).trans rfl
      have hg2 : wr.cell? ⟨w.heap.size, 1, none⟩ = some (.slice none 0 0) := (blk_cell hg0 1).trans rfl
      have hf1 := blk_frozen hg0 0
      have hf2 := blk_frozen hg0 1
      have cR2 : wr.cell? ⟨O, 0, none⟩ = some vt := (blk_cell HC.out.1 0).trans rfl
      have cR3 : wr.cell? ⟨O, 1, none⟩ = some vm := (blk_cell HC.out.1 1).trans rfl
      obtain ⟨At, ct, rfl⟩ := Kd.R_slice HC.out.2.2.2.1
      obtain ⟨Am, cm, rfl⟩ := Kd.R_slice HC.out.2.2.2.2
      have HMq := Aside0.mk HC.out.2.2.2.2
      have HTq := Aside0.mk HC.out.2.2.2.1
      clear hg0 hk hk0 hlt HC
      have hcv : ((runTo a1 S0 k.toNat).M.map cv).length = (runTo a1 S0 k.toNat).M.length := List.length_map ..
      rw [hcv] at HMq cR3
      go_wp2
      have GB1 := blk_put (cs' := #[.slice At (runTo a1 S0 k.toNat).T.length ct, .slice none 0 0]) HGG.out 0 (.slice At (runTo a1 S0 k.toNat).T.length ct) rfl
      have GB2 := blk_put (cs' := #[.slice At (runTo a1 S0 k.toNat).T.length ct, .slice Am (runTo a1 S0 k.toNat).M.length cm]) GB1 1 (.slice Am (runTo a1 S0 k.toNat).M.length cm) rfl
      refine bodyPost_ret (results_ct rfl _ _ w.heap.size 42 #[.slice At (runTo a1 S0 k.toNat).T.length ct, .slice Am (runTo a1 S0 k.toNat).M.length cm] (0, 0) _ rfl GB2 Try.underlying42 rfl (by kernel_rfl)) rfl ?_
      rw [HS0.out]
      exact ⟨_, _, rfl, Kd.R_lower (Kd.R_set (Kd.R_set HTq.out HGG.out (fun q hq => e_int hq (by decide)) _ _) GB1 (fun q hq => e_int hq (by decide)) _ _) (below_size HW1.out), Kd.R_lower (Kd.R_set (Kd.R_set HMq.out HGG.out (fun q hq => e_69 hq (by decide)) _ _) GB1 (fun q hq => e_69 hq (by decide)) _ _) (below_size HW1.out), low_set (low_set (below_step HW1.out HB.out) (Nat.le_refl _) _ _) (Nat.le_refl _) _ _⟩

end Go.Proofs.Ytkjboaepeecinaa.PSk
