/- The contract of skip.Run. -/
import Derived.Test.YtkjboaepeecinaaPSkx3
import Derived.Test.YtkjboaepeecinaaSkTick
import Derived.Test.YtkjboaepeecinaaSkBd
import Derived.Test.YtkjboaepeecinaaSkDem
namespace Go.Proofs.Ytkjboaepeecinaa.PSk
open Go.RowKit Go.Proofs.Ytkjboaepeecinaa.PSk Go.Proofs.YtkjboaepeecinaaW.PrintWords Go.Proofs.YtkjboaepeecinaaW.PrintLast Go.Proofs.YtkjboaepeecinaaW.PrintMore Go.Proofs.Ytkjboaepeecinaa.Pure
set_option linter.unusedVariables false
set_option linter.unusedSimpArgs false

def iniT (t : S35) : St := ini t.f0 t.f1 t.f2
def skip_Run.f (l : List S35) (b : Bool) (t : Int) : Option (List Int × List S33 × Int) :=
  if t < 0 ∨ 10000 < t then some ([], [], 1) else
    if (holdsS (l.map qT)).2 ≠ 0 then some ([], [], (holdsS (l.map qT)).2) else
      if (holdsS (l.map qT)).1 = false then some ([], [], 9) else some ((runTo b (l.map iniT) t.toNat).T, (runTo b (l.map iniT) t.toNat).M, 0)
theorem holds_good {l : List T3} (h : (holdsS l).2 = 0) : l.length ≤ 20 ∧ ∀ t ∈ l, goodTB t.1 t.2.1 t.2.2 = true := by
  have h2 : (frameS l).2 = 0 := by
    unfold holdsS at h
    split at h
    · assumption
    · exact h
  unfold frameS at h2
  split at h2
  · cases h2
  · rename_i hq
    refine ⟨by omega, fun t ht => ?_⟩
    cases hg : goodTB t.1 t.2.1 t.2.2 with
    | true => rfl
    | false => exact absurd (.inr (List.any_eq_true.2 ⟨t, ht, by simp [hg]⟩)) hq
theorem infoPtr : (Try.prog.info? 60).map (fun i => (i.zero, i.size, i.bytes)) = some (some (.pointer none), 1, 8) := by kernel_rfl
theorem RunC_alloc {W0 W : World} {R : Nat} {vl vt vm : Value} {A : List Nat} {S : List St} {blue : Bool} {T : List Int} {M : List S33} (h : RunC W0 W R vl vt vm A S blue T M) (o : Obj) : RunC W0 (W.alloc o) R vl vt vm A S blue T M := by
  obtain ⟨BK, HL, HT, HM, hnd, hal, hst⟩ := h
  exact ⟨blk_alloc BK o, Kd.R_alloc HL o, Kd.R_alloc HT o, Kd.R_alloc HM o, hnd, hal, Sts_move hst fun a x hx => blk_alloc hx o⟩
theorem RunC_lt {W0 W : World} {R : Nat} {vl vt vm : Value} {A : List Nat} {S : List St} {blue : Bool} {T : List Int} {M : List S33} (h : RunC W0 W R vl vt vm A S blue T M) (b : Nat) (hb : b ∈ A) : b < W.heap.size := by
  obtain ⟨BK, HL, HT, HM, hnd, hal, hst⟩ := h
  obtain ⟨i, hi, rfl⟩ := List.mem_iff_getElem.1 hb
  exact blk_lt (hst i _ _ (List.getElem?_eq_getElem hi) (List.getElem?_eq_getElem (by omega))).1
theorem RunC_L {W0 W w1 : World} {R a : Nat} {vl vt vm v1 : Value} {A : List Nat} {S : List St} {blue : Bool} {T : List Int} {M : List S33} {x : St} (h : RunC W0 W R vl vt vm A S blue T M) (ha : W.heap[a]? = some (.cells (stC x) 62 (0, 0))) (hA : ∀ b ∈ A, b ≠ a) (hb : W0.heap.size ≤ a) (hg : W.grownBy w1 vl.ownBlock) (ho : Kd.R ptrK 60 w1 W0.heap.size (fun _ => True) v1 (A ++ [a])) :
    RunC W0 (w1.setCell ⟨R, 0, none⟩ v1) R v1 vt vm (A ++ [a]) (S ++ [x]) blue T M := by
  obtain ⟨BK, HL, HT, HM, hnd, hal, hst⟩ := h
  have BK1 := blk_grown BK hg (Kd.R_ne HL BK (by decide))
  refine ⟨blk_put BK1 0 v1 rfl, Kd.R_set ho BK1 (by intro q hq; simp [ptrK, Kd.scalar] at hq; subst hq; decide) _ _, Kd.R_set (R_other HT HL (by intro q hq; simp [Kd.int, Kd.scalar] at hq; subst hq; decide) hg) BK1 (by intro q hq; simp [Kd.int, Kd.scalar] at hq; subst hq; decide) _ _, Kd.R_set (R_other HM HL (by intro q hq; simp [k33, Kd.iso, Kd.pair, Kd.int, Kd.bool, Kd.scalar] at hq; subst hq; decide) hg) BK1 (by intro q hq; simp [k33, Kd.iso, Kd.pair, Kd.int, Kd.bool, Kd.scalar] at hq; subst hq; decide) _ _, ?_, by simp [hal], ?_⟩
  · rw [List.nodup_append]
    exact ⟨hnd, by simp, fun b hbm c hc => by rw [List.mem_singleton] at hc; rw [hc]; exact hA b hbm⟩
  · intro i b y hi hy
    have mv : ∀ (b : Nat) (y : St), W.heap[b]? = some (.cells (stC y) 62 (0, 0)) → (w1.setCell ⟨R, 0, none⟩ v1).heap[b]? = some (.cells (stC y) 62 (0, 0)) := fun b y hy => by
      have hx1 := blk_grown hy hg (Kd.R_ne HL hy (by decide))
      exact blk_far hx1 (p := ⟨R, 0, none⟩) (blk_ne hx1 BK1 (by decide)) _
    by_cases hil : i < A.length
    · rw [List.getElem?_append_left hil] at hi
      rw [List.getElem?_append_left (by omega)] at hy
      exact ⟨mv b y (hst i b y hi hy).1, (hst i b y hi hy).2⟩
    · rw [List.getElem?_append_right (by omega)] at hi
      rw [List.getElem?_append_right (by omega)] at hy
      obtain ⟨h1, h2⟩ := List.getElem?_eq_some_iff.1 hi
      obtain ⟨h3, h4⟩ := List.getElem?_eq_some_iff.1 hy
      have e1 : i - A.length = 0 := by simp at h1; omega
      have e2 : i - S.length = 0 := by simp at h3; omega
      simp only [e1, List.getElem_cons_zero] at h2
      simp only [e2, List.getElem_cons_zero] at h4
      subst h2 h4
      exact ⟨mv _ _ ha, hb⟩
theorem okB_bd {k : Int} {x : St} (hk : k ≤ 100000) (h : okB k x) : bdS x := by
  obtain ⟨h1, h2, h3, ⟨h4, h5⟩, ⟨h6, h7⟩, ⟨h8, h9⟩, h10, h11⟩ := h
  exact ⟨h1, h2, h3, ⟨h4, by omega⟩, ⟨h6, by omega⟩, ⟨by omega, by omega⟩, by omega, by omega⟩
attribute [local go_sem] max2_int min2_int max_two min_two
set_option maxHeartbeats 8000000 in
set_option maxRecDepth 100000 in
theorem skip_Run.calls (A0 : Option Addr) (c0 : Nat) (l0 : List S35) (a1 : Bool) (a2 : Int) (r1 : List Int) (r2 : List S33) (r3 : Int) (w : World) (hr0 : Kd.C k35 w A0 l0.length l0) (hc0 : l0.length ≤ c0) (h : skip_Run.f l0 a1 a2 = some (r1, r2, r3)) :
    Calls Try.prog 11 #[.slice A0 l0.length c0, .bool a1, .int .i64 a2] w fun e w' => ∃ v0_ v1_ : Value, e = .returned (.tuple #[.agg #[v0_, v1_], .int .i64 r3]) ∧ Kd.R (Kd.int .i64) 3 w' w.heap.size (fun _ => True) v0_ r1 ∧ Kd.R k33 33 w' w.heap.size (fun _ => True) v1_ r2 ∧ Below w.heap.size w w' := by
  have HB := Aside0.mk (Below.refl w.heap.size w)
  have HR0 := Aside0.mk hr0
  have HC0 := Aside0.mk hc0
  have CH : Aside0 (∀ W', Below w.heap.size w W' → Calls Try.prog 21 #[.slice A0 l0.length c0] W' fun e w' => e = .returned (.tuple #[.bool (holdsS (l0.map qT)).1, .int .i64 (holdsS (l0.map qT)).2]) ∧ Below W'.heap.size W' w') := ⟨fun W' hb => by
    have := demand_Holds.calls 9223372036854775900 A0 c0 l0 (holdsS (l0.map qT)).1 (holdsS (l0.map qT)).2 W' (Kd.C_below hr0 hb) hc0 (holds_is _ l0 (Nat.le_refl _))
    exact this⟩
  unfold skip_Run.f at h
  clear hr0 hc0
  by_cases q1 : a2 < 0 ∨ 10000 < a2
  · rw [if_pos q1] at h
    obtain ⟨rfl, rfl, rfl⟩ : r1 = [] ∧ r2 = [] ∧ r3 = 1 := by simp at h; exact ⟨h.1, h.2.1, h.2.2.symm⟩
    by_cases q2 : a2 < 0
    · have z1 : decide (a2 < 0) = true := decide_eq_true q2
      clear q1 h CH
      go_enter Try.func11, Try.ntmps11
      go_wp2
      refine bodyPost_ret (results_ct rfl _ _ w.heap.size 28 #[.slice none 0 0, .slice none 0 0] (0, 0) _ rfl (blk_new _ _) Try.underlying28 rfl (by kernel_rfl)) rfl ?_
      exact ⟨_, _, rfl, Kd.R_nil _ _ _ _ _, Kd.R_nil _ _ _ _ _, (by repeat (first | (with_reducible first | exact HB.out | apply below_alloc | apply pw_below_drewN | apply below_drew1) | exact HB.out))⟩
    · have z1 : decide (a2 < 0) = false := decide_eq_false q2
      have z2 : decide (10000 < a2) = true := decide_eq_true (by omega)
      clear q1 h CH
      go_enter Try.func11, Try.ntmps11
      go_wp2
      refine bodyPost_ret (results_ct rfl _ _ w.heap.size 28 #[.slice none 0 0, .slice none 0 0] (0, 0) _ rfl (blk_new _ _) Try.underlying28 rfl (by kernel_rfl)) rfl ?_
      exact ⟨_, _, rfl, Kd.R_nil _ _ _ _ _, Kd.R_nil _ _ _ _ _, (by repeat (first | (with_reducible first | exact HB.out | apply below_alloc | apply pw_below_drewN | apply below_drew1) | exact HB.out))⟩
  · rw [if_neg q1] at h
    have z1 : decide (a2 < 0) = false := decide_eq_false (by omega)
    have z2 : decide (10000 < a2) = false := decide_eq_false (by omega)
    have q3 : 0 ≤ a2 ∧ a2 ≤ 10000 := by omega
    by_cases q2 : (holdsS (l0.map qT)).2 ≠ 0
    · rw [if_pos q2] at h
      obtain ⟨rfl, rfl, rfl⟩ : r1 = [] ∧ r2 = [] ∧ r3 = (holdsS (l0.map qT)).2 := by simp at h; exact ⟨h.1, h.2.1, h.2.2.symm⟩
      generalize (holdsS (l0.map qT)).2 = er at *
      have z3 : (er != 0) = true := by simpa using q2
      clear h q1 q2
      go_enter Try.func11, Try.ntmps11
      go_wp2_with (first | (go_at_call 21; have HB1 := Aside0.mk (below_alloc HB.out (.cells #[.slice none 0 0, .slice none 0 0] 28)); have HG := Aside0.mk (blk_new w (.cells #[.slice none 0 0, .slice none 0 0] 28)); (with_reducible refine (CH.out _ HB1.out).mono ?_); rintro e w7 ⟨rfl, hb⟩; have HG2 := Aside0.mk (blk_below HG.out hb); have HB2 := Aside0.mk (below_step HB1.out hb); clear hb HG HB1; have hg0 : w7.cell? ⟨w.heap.size, 0, none⟩ = some (.slice none 0 0) := (blk_cell HG2.out 0).trans rfl; have hg1 : w7.cell? ⟨w.heap.size, 1, none⟩ = some (.slice none 0 0) := (blk_cell HG2.out 1).trans rfl; have hf0 := blk_frozen HG2.out 0; have hf1 := blk_frozen HG2.out 1))
      refine bodyPost_ret (results_ct rfl _ _ w.heap.size 28 #[.slice none 0 0, .slice none 0 0] (0, 0) _ rfl (blk_put (cs' := #[.slice none 0 0, .slice none 0 0]) (blk_put (cs' := #[.slice none 0 0, .slice none 0 0]) HG2.out 0 _ rfl) 1 _ rfl) Try.underlying28 rfl (by kernel_rfl)) rfl ?_
      exact ⟨_, _, rfl, Kd.R_nil _ _ _ _ _, Kd.R_nil _ _ _ _ _, low_set (low_set HB2.out (Nat.le_refl _) _ _) (Nat.le_refl _) _ _⟩
    · rw [if_neg q2] at h
      have q4 : (holdsS (l0.map qT)).2 = 0 := by omega
      rw [q4] at CH
      by_cases q5 : (holdsS (l0.map qT)).1 = false
      · rw [if_pos q5] at h
        obtain ⟨rfl, rfl, rfl⟩ : r1 = [] ∧ r2 = [] ∧ r3 = 9 := by simp at h; exact ⟨h.1, h.2.1, h.2.2.symm⟩
        rw [q5] at CH
        clear h q1 q2 q4 q5
        go_enter Try.func11, Try.ntmps11
        go_wp2_with (first | (go_at_call 21; have HB1 := Aside0.mk (below_alloc HB.out (.cells #[.slice none 0 0, .slice none 0 0] 28)); have HG := Aside0.mk (blk_new w (.cells #[.slice none 0 0, .slice none 0 0] 28)); (with_reducible refine (CH.out _ HB1.out).mono ?_); rintro e w7 ⟨rfl, hb⟩; have HG2 := Aside0.mk (blk_below HG.out hb); have HB2 := Aside0.mk (below_step HB1.out hb); clear hb HG HB1; have hg0 : w7.cell? ⟨w.heap.size, 0, none⟩ = some (.slice none 0 0) := (blk_cell HG2.out 0).trans rfl; have hg1 : w7.cell? ⟨w.heap.size, 1, none⟩ = some (.slice none 0 0) := (blk_cell HG2.out 1).trans rfl; have hf0 := blk_frozen HG2.out 0; have hf1 := blk_frozen HG2.out 1))
        refine bodyPost_ret (results_ct rfl _ _ w.heap.size 28 #[.slice none 0 0, .slice none 0 0] (0, 0) _ rfl (blk_put (cs' := #[.slice none 0 0, .slice none 0 0]) (blk_put (cs' := #[.slice none 0 0, .slice none 0 0]) HG2.out 0 _ rfl) 1 _ rfl) Try.underlying28 rfl (by kernel_rfl)) rfl ?_
        exact ⟨_, _, rfl, Kd.R_nil _ _ _ _ _, Kd.R_nil _ _ _ _ _, low_set (low_set HB2.out (Nat.le_refl _) _ _) (Nat.le_refl _) _ _⟩
      · rw [if_neg q5] at h
        have q6 : (holdsS (l0.map qT)).1 = true := by simpa using q5
        have HGD := Aside0.mk (holds_good q4)
        rw [q6] at CH
        obtain ⟨rfl, rfl, rfl⟩ : r1 = (runTo a1 (l0.map iniT) a2.toNat).T ∧ r2 = (runTo a1 (l0.map iniT) a2.toNat).M ∧ r3 = 0 := by simp at h; exact ⟨h.1.symm, h.2.1.symm, h.2.2.symm⟩
        clear h q1 q2 q4 q5 q6
        go_enter Try.func11, Try.ntmps11
        go_wp2_with (first | (go_at_call 21; have HB1 := Aside0.mk (below_alloc HB.out (.cells #[.slice none 0 0, .slice none 0 0] 28)); have HW2 := Aside0.mk (blk_new w (.cells #[.slice none 0 0, .slice none 0 0] 28)); (with_reducible refine (CH.out _ HB1.out).mono ?_); rintro e w7 ⟨rfl, hb⟩; have HBG := Aside0.mk hb; have HW1 := HB1; clear hb HB1; generalize w.alloc (.cells #[.slice none 0 0, .slice none 0 0] 28) = wG at HBG HW1 HW2))
        have HRC := Aside0.mk (show RunC wG (w7.alloc (.cells #[.slice none 0 0, .bool a1, .slice none 0 0, .slice none 0 0] 59)) w7.heap.size (.slice none 0 0) (.slice none 0 0) (.slice none 0 0) [] [] a1 [] [] from ⟨blk_new _ _, Kd.R_nil _ _ _ _ _, Kd.R_nil _ _ _ _ _, Kd.R_nil _ _ _ _ _, by simp, rfl, fun i a x h => by simp at h⟩)
        have HB3 := Aside0.mk (below_alloc HBG.out (.cells #[.slice none 0 0, .bool a1, .slice none 0 0, .slice none 0 0] 59))
        have HGR := Aside0.mk (below_size HBG.out)
        clear HB HBG CH
        generalize w7.heap.size = R at HRC HGR ⊢
        generalize w7.alloc (.cells #[.slice none 0 0, .bool a1, .slice none 0 0, .slice none 0 0] 59) = w8 at HRC HB3 ⊢
        clear w7
        go_loopw [42] (fun v42 wr => ∃ (i : Int) (vl : Value) (A : List Nat), 0 ≤ i ∧ i ≤ l0.length ∧ v42 = .int .i64 i ∧ Aside0 (RunC wG wr R vl (.slice none 0 0) (.slice none 0 0) A ((l0.take i.toNat).map iniT) a1 [] []) ∧ Aside0 (Below wG.heap.size wG wr)) (fun v42 _ => l0.length - (intOf v42).toNat)
        case atStart => exact ⟨0, _, _, by omega, by omega, rfl, HRC, HB3⟩
        case round =>
          clear HRC HB3
          obtain ⟨i, vl, A, hi0, hi, rfl, HC, HB⟩ := hrel
          by_cases hlt : i < l0.length
          · obtain ⟨ad, rfl, t0, t1, t2⟩ := at_T35 (Kd.C_below HR0.out (below_step HW1.out HB.out)) i (by omega) (by omega)
            have hgt := HGD.out.2 (qT (rd_T35 l0 i)) (List.mem_map_of_mem (by unfold rd_T35; rw [List.getD_eq_getElem?_getD, List.getElem?_eq_getElem (by omega)]; exact List.getElem_mem _))
            have hgt2 : goodTB (rd_T35 l0 i).f0 (rd_T35 l0 i).f1 (rd_T35 l0 i).f2 = true := hgt
            clear hgt
            have htk : (l0.take (i + 1).toNat).map iniT = (l0.take i.toNat).map iniT ++ [iniT (rd_T35 l0 i)] := by
              rw [show (i + 1).toNat = i.toNat + 1 by omega, List.take_succ_eq_append_getElem (by omega), List.map_append]
              congr 2
              unfold rd_T35
              rw [List.getD_eq_getElem?_getD, List.getElem?_eq_getElem (by omega)]
              rfl
            have HTK := Aside0.mk htk
            clear htk
            generalize rd_T35 l0 i = t at *
            obtain ⟨p, need, s⟩ := t
            simp only at t0 t1 t2 hgt2
            have hgb := goodTB_iff hgt2
            clear hgt2
            obtain ⟨Al, cl, rfl⟩ := Kd.R_slice HC.out.2.1
            have cR0 : wr.cell? ⟨R, 0, none⟩ = some (.slice Al A.length cl) := (blk_cell HC.out.1 0).trans rfl
            have hws : wrap64 (s - 1) = s - 1 := by simp only [wrap64]; omega
            have hwi : wrap64 (i + 1) = i + 1 := by have h2 := HGD.out.1; simp at h2; simp only [wrap64]; omega
            have HLA : Aside0 (A.length ≤ 20) := ⟨by have h1 := HC.out.2.2.2.2.2.1; have h2 := HGD.out.1; simp at h1 h2; omega⟩
            go_wp2
            have HCn := Aside0.mk (RunC_alloc HC.out (.cells #[.int .i64 p, .int .i64 need, .int .i64 s] 35))
            have HBn := Aside0.mk (below_alloc HB.out (.cells #[.int .i64 p, .int .i64 need, .int .i64 s] 35))
            have HTn := Aside0.mk (blk_new wr (.cells #[.int .i64 p, .int .i64 need, .int .i64 s] 35))
            clear HC HB cR0 t0 t1 t2
            generalize wr.heap.size = tb at HTn ⊢
            generalize wr.alloc (.cells #[.int .i64 p, .int .i64 need, .int .i64 s] 35) = Wd at HCn HBn HTn ⊢
            have cR0n : Wd.cell? ⟨R, 0, none⟩ = some (.slice Al A.length cl) := (blk_cell HCn.out.1 0).trans rfl
            have b0n : Wd.cell? ⟨tb, 0, none⟩ = some (.int .i64 p) := (blk_cell HTn.out 0).trans rfl
            have b1n : Wd.cell? ⟨tb, 1, none⟩ = some (.int .i64 need) := (blk_cell HTn.out 1).trans rfl
            have b2n : Wd.cell? ⟨tb, 2, none⟩ = some (.int .i64 s) := (blk_cell HTn.out 2).trans rfl
            refine start_ (n := 16) (S := fun w' => w'.cell? ⟨R, 0, none⟩ = some (.slice Al A.length cl) ∧ w'.cell? ⟨tb, 0, none⟩ = some (.int .i64 p) ∧ w'.cell? ⟨tb, 1, none⟩ = some (.int .i64 need) ∧ w'.cell? ⟨tb, 2, none⟩ = some (.int .i64 s)) (ds := [15]) #[false, false, false, false, false, false, false, false, false, false, false, false, false, false, false, false] (by kernel_rfl) rfl rfl ⟨cR0n, b0n, b1n, b2n⟩ (fun hHeld => ?_)
            have HC := Aside0.mk (RunC_drew HCn.out)
            have HB := Aside0.mk (below_drew HBn.out)
            have HT := Aside0.mk (blk_drew HTn.out)
            clear HCn HBn HTn cR0n b0n b1n b2n
            generalize Wd.drew = We at HC HB HT hHeld ⊢
            have cR0 := hHeld.1
            have b0 := hHeld.2.1
            have b1 := hHeld.2.2.1
            have b2 := hHeld.2.2.2
            refine pure_ (i := 0) (N := some 46) (v := ?_) (a' := ?_) #[true, false, false, false, false, false, false, false, false, false, false, false, false, false, false, false] rfl rfl (by kernel_rfl) (fun _ _ _ h => h) (Or.inl ⟨by rfl, ?_⟩) ?_ ?_
            rotate_left
            · intro w'
              go_simp
              with_reducible rfl
            rotate_left
            · simp only [Act.put, List.setIfInBounds_toArray, List.set_cons_zero, List.set_cons_succ, i64_w, i32_w]
              rfl
            refine pure_ (i := 1) (N := some 47) (v := ?_) (a' := ?_) #[true, true, false, false, false, false, false, false, false, false, false, false, false, false, false, false] rfl rfl (by kernel_rfl) (fun _ _ _ h => h) (Or.inl ⟨by rfl, ?_⟩) ?_ ?_
            rotate_left
            · intro w'
              go_simp
              with_reducible rfl
            rotate_left
            · simp only [Act.put, List.setIfInBounds_toArray, List.set_cons_zero, List.set_cons_succ, i64_w, i32_w]
              rfl
            refine pure_ (i := 2) (N := some 48) (v := ?_) (a' := ?_) #[true, true, true, false, false, false, false, false, false, false, false, false, false, false, false, false] rfl rfl (by kernel_rfl) (fun _ _ _ h => h) (Or.inl ⟨by rfl, ?_⟩) ?_ ?_
            rotate_left
            · intro w'
              go_simp
              with_reducible rfl
            rotate_left
            · simp only [Act.put, List.setIfInBounds_toArray, List.set_cons_zero, List.set_cons_succ, i64_w, i32_w]
              rfl
            refine pure_ (i := 3) (N := some 49) (v := ?_) (a' := ?_) #[true, true, true, true, false, false, false, false, false, false, false, false, false, false, false, false] rfl rfl (by kernel_rfl) (fun _ _ _ h => h) (Or.inl ⟨by rfl, ?_⟩) ?_ ?_
            rotate_left
            · intro w'
              go_simp
              with_reducible rfl
            rotate_left
            · simp only [Act.put, List.setIfInBounds_toArray, List.set_cons_zero, List.set_cons_succ, i64_w, i32_w]
              rfl
            refine pure_ (i := 6) (N := some 52) (v := ?_) (a' := ?_) #[true, true, true, true, false, false, true, false, false, false, false, false, false, false, false, false] rfl rfl (by kernel_rfl) (fun _ _ _ h => h) (Or.inl ⟨by rfl, ?_⟩) ?_ ?_
            rotate_left
            · intro w'
              go_simp
              with_reducible rfl
            rotate_left
            · simp only [Act.put, List.setIfInBounds_toArray, List.set_cons_zero, List.set_cons_succ, i64_w, i32_w]
              rfl
            refine take_ (i := 4) (N := some 50) (v := ?_) (a' := ?_) #[true, true, true, true, true, false, true, false, false, false, false, false, false, false, false, false] rfl rfl (by kernel_rfl) (fun _ _ _ h => h) (Or.inl ⟨by rfl, ?_⟩) hHeld ?_ ?_
            rotate_left
            · rintro w' ⟨s0, s1, s2, s3⟩
              go_simp
              with_reducible rfl
            rotate_left
            · simp only [Act.put, List.setIfInBounds_toArray, List.set_cons_zero, List.set_cons_succ, i64_w, i32_w]
              rfl
            refine take_ (i := 5) (N := some 51) (v := ?_) (a' := ?_) #[true, true, true, true, true, true, true, false, false, false, false, false, false, false, false, false] rfl rfl (by kernel_rfl) (fun _ _ _ h => h) (Or.inl ⟨by rfl, ?_⟩) hHeld ?_ ?_
            rotate_left
            · rintro w' ⟨s0, s1, s2, s3⟩
              go_simp
              with_reducible rfl
            rotate_left
            · simp only [Act.put, List.setIfInBounds_toArray, List.set_cons_zero, List.set_cons_succ, i64_w, i32_w]
              rfl
            refine take_ (i := 7) (N := some 53) (v := ?_) (a' := ?_) #[true, true, true, true, true, true, true, true, false, false, false, false, false, false, false, false] rfl rfl (by kernel_rfl) (fun _ _ _ h => h) (Or.inl ⟨by rfl, ?_⟩) hHeld ?_ ?_
            rotate_left
            · rintro w' ⟨s0, s1, s2, s3⟩
              go_simp
              with_reducible rfl
            rotate_left
            · simp only [Act.put, List.setIfInBounds_toArray, List.set_cons_zero, List.set_cons_succ, i64_w, i32_w]
              rfl
            refine pure_ (i := 8) (N := some 54) (v := ?_) (a' := ?_) #[true, true, true, true, true, true, true, true, true, false, false, false, false, false, false, false] rfl rfl (by kernel_rfl) (fun _ _ _ h => h) (Or.inl ⟨by rfl, ?_⟩) ?_ ?_
            rotate_left
            · intro w'
              go_simp
              with_reducible rfl
            rotate_left
            · simp only [Act.put, List.setIfInBounds_toArray, List.set_cons_zero, List.set_cons_succ, i64_w, i32_w]
              rfl
            refine pure_ (i := 9) (N := some 55) (v := ?_) (a' := ?_) #[true, true, true, true, true, true, true, true, true, true, false, false, false, false, false, false] rfl rfl (by kernel_rfl) (fun _ _ _ h => h) (Or.inl ⟨by rfl, ?_⟩) ?_ ?_
            rotate_left
            · intro w'
              go_simp
              with_reducible rfl
            rotate_left
            · simp only [Act.put, List.setIfInBounds_toArray, List.set_cons_zero, List.set_cons_succ, i64_w, i32_w]
              rfl
            refine one_ (i := 10) (N := some 56) #[true, true, true, true, true, true, true, true, true, true, true, false, false, false, false, false] rfl rfl (by kernel_rfl) (by decide) (fun K hK => ?_)
            refine value_ (w1 := ?_) (v := ?_) (by rfl) rfl ?_ ?_
            rotate_left 2
            · go_simp
              constructor
              · rfl
              · rfl
            refine hK.out _ _ ⟨(World.cell?_alloc_lt _ _ _ (World.block_lt_of_cell? _ _ cR0)).trans cR0, (World.cell?_alloc_lt _ _ _ (World.block_lt_of_cell? _ _ b0)).trans b0, (World.cell?_alloc_lt _ _ _ (World.block_lt_of_cell? _ _ b1)).trans b1, (World.cell?_alloc_lt _ _ _ (World.block_lt_of_cell? _ _ b2)).trans b2⟩ (fun hHeld => ?_)
            clear hK K
            refine norm_ (a' := ?_) ?_ ?_
            rotate_left
            · show Act.put _ (some 56) _ = _
              simp only [Act.put, List.setIfInBounds_toArray, List.set_cons_zero, List.set_cons_succ, i64_w, i32_w]
              rfl
            refine one_ (i := 11) (N := some 57) #[true, true, true, true, true, true, true, true, true, true, true, true, false, false, false, false] rfl rfl (by kernel_rfl) (by decide) (fun K hK => ?_)
            refine value_ (w1 := ?_) (v := ?_) (by rfl) rfl ?_ ?_
            rotate_left 2
            · go_simp
              constructor
              · rfl
              · rfl
            refine hK.out _ _ ⟨((World.cell?_alloc_lt _ _ _ (World.block_lt_of_cell? _ _ ((World.cell?_alloc_lt _ _ _ (World.block_lt_of_cell? _ _ cR0)).trans cR0))).trans ((World.cell?_alloc_lt _ _ _ (World.block_lt_of_cell? _ _ cR0)).trans cR0)), ((World.cell?_alloc_lt _ _ _ (World.block_lt_of_cell? _ _ ((World.cell?_alloc_lt _ _ _ (World.block_lt_of_cell? _ _ b0)).trans b0))).trans ((World.cell?_alloc_lt _ _ _ (World.block_lt_of_cell? _ _ b0)).trans b0)), ((World.cell?_alloc_lt _ _ _ (World.block_lt_of_cell? _ _ ((World.cell?_alloc_lt _ _ _ (World.block_lt_of_cell? _ _ b1)).trans b1))).trans ((World.cell?_alloc_lt _ _ _ (World.block_lt_of_cell? _ _ b1)).trans b1)), ((World.cell?_alloc_lt _ _ _ (World.block_lt_of_cell? _ _ ((World.cell?_alloc_lt _ _ _ (World.block_lt_of_cell? _ _ b2)).trans b2))).trans ((World.cell?_alloc_lt _ _ _ (World.block_lt_of_cell? _ _ b2)).trans b2))⟩ (fun hHeld => ?_)
            clear hK K
            refine norm_ (a' := ?_) ?_ ?_
            rotate_left
            · show Act.put _ (some 57) _ = _
              simp only [Act.put, List.setIfInBounds_toArray, List.set_cons_zero, List.set_cons_succ, i64_w, i32_w]
              rfl
            refine one_ (i := 12) (N := some 58) #[true, true, true, true, true, true, true, true, true, true, true, true, true, false, false, false] rfl rfl (by kernel_rfl) (by decide) (fun K hK => ?_)
            refine Kd.R_append_step ptrK (w0 := wG) wG.heap.size (by rfl) (.tmp 50) (.tmp 57) 57 60 (.pointer none) 8 rfl Try.underlying57 infoPtr rfl (by decide) (by omega) (.slice Al A.length cl) A We.heap.size [.pointer (some ⟨We.heap.size, 0, none⟩)] (fun _ => True) (fun _ => False) rfl ?aX ?aP (fun _ hk => hk.elim) (fun _ _ => trivial) ?aO ?aB ?aS ?aL ?_
            (case aX => first | rfl | (simp; rfl))
            (case aP => exact rfl)
            (case aO => exact Kd.R_alloc HC.out.2.1 _)
            (case aB => exact below_alloc HB.out _)
            (case aS => exact below_size (below_alloc HB.out _))
            (case aL => have := HLA.out; omega)
            intro v1 w6 ho hb hg hat
            obtain ⟨A1_, c1_, rfl⟩ := Kd.R_slice ho
            have HC2 := RunC_alloc HC.out (.cells #[.int .i64 p, .int .i64 need, .int .i64 s, .int .i64 (-1), .int .i64 0, .int .i64 0, .bool false, .int .i64 (s - 1)] 62)
            have hRw := blk_grown HC2.1 hg (Kd.R_ne HC2.2.1 HC2.1 (by decide))
            have htw := blk_grown (blk_alloc HT.out (.cells #[.int .i64 p, .int .i64 need, .int .i64 s, .int .i64 (-1), .int .i64 0, .int .i64 0, .bool false, .int .i64 (s - 1)] 62)) hg (Kd.R_ne HC2.2.1 (blk_alloc HT.out (.cells #[.int .i64 p, .int .i64 need, .int .i64 s, .int .i64 (-1), .int .i64 0, .int .i64 0, .bool false, .int .i64 (s - 1)] 62)) (by decide))
            have cw0 : w6.cell? ⟨R, 0, none⟩ = some (.slice Al A.length cl) := (blk_cell hRw 0).trans rfl
            have fw0 := blk_frozen hRw 0
            have HC3 := Aside0.mk (RunC_L (x := iniT ⟨p, need, s⟩) HC2 (blk_new We (.cells #[.int .i64 p, .int .i64 need, .int .i64 s, .int .i64 (-1), .int .i64 0, .int .i64 0, .bool false, .int .i64 (s - 1)] 62)) (fun b hb => Nat.ne_of_lt (RunC_lt HC.out b hb)) (below_size HB.out) hg ho)
            have HB3 := Aside0.mk hb
            clear ho hb hat HC2
            refine hK.out _ _ ⟨(blk_cell hRw 0).trans rfl, (blk_cell htw 0).trans rfl, (blk_cell htw 1).trans rfl, (blk_cell htw 2).trans rfl⟩ (fun hHeld => ?_)
            clear hK K
            refine norm_ (a' := ?_) ?_ ?_
            rotate_left
            · show Act.put _ (some 58) _ = _
              simp only [Act.put, List.setIfInBounds_toArray, List.set_cons_zero, List.set_cons_succ, i64_w, i32_w]
              rfl
            refine pure_ (i := 13) (N := some 59) (v := ?_) (a' := ?_) #[true, true, true, true, true, true, true, true, true, true, true, true, true, true, false, false] rfl rfl (by kernel_rfl) (fun _ _ _ h => h) (Or.inl ⟨by rfl, ?_⟩) ?_ ?_
            rotate_left
            · intro w'
              go_simp
              with_reducible rfl
            rotate_left
            · simp only [Act.put, List.setIfInBounds_toArray, List.set_cons_zero, List.set_cons_succ, i64_w, i32_w]
              rfl
            refine pure_ (i := 14) (N := some 60) (v := ?_) (a' := ?_) #[true, true, true, true, true, true, true, true, true, true, true, true, true, true, true, false] rfl rfl (by kernel_rfl) (fun _ _ _ h => h) (Or.inl ⟨by rfl, ?_⟩) ?_ ?_
            rotate_left
            · intro w'
              go_simp
              with_reducible rfl
            rotate_left
            · simp only [Act.put, List.setIfInBounds_toArray, List.set_cons_zero, List.set_cons_succ, i64_w, i32_w]
              rfl
            refine last_ (i := 15) (N := none) #[true, true, true, true, true, true, true, true, true, true, true, true, true, true, true, true] rfl rfl (by kernel_rfl) (by decide) (fun K hK => ?_)
            refine skip_ (w1 := ?_) (by rfl) rfl ?_ ?_
            rotate_left
            · go_simp
              rfl
            refine hK.out _ _ ?_
            clear hK K
            refine done_ (by kernel_rfl) ?_
            go_wp2
            rw [show (A ++ [We.heap.size]).length = A.length + 1 by simp] at HC3
            exact ⟨⟨i + 1, _, _, by omega, by omega, by rw [hwi], ⟨by rw [HTK.out]; exact HC3.out⟩, ⟨low_set HB3.out HGR.out _ _⟩⟩, by rw [hwi]; simp [intOf]; omega⟩
          · have hie : i = l0.length := by omega
            have hz : decide (i < (l0.length : Int)) = false := decide_eq_false hlt
            have htk : (l0.take i.toNat).map iniT = l0.map iniT := by rw [show i.toNat = l0.length by omega, List.take_length]
            rw [htk] at HC
            clear htk hi hi0 hlt
            subst hie
            go_wp2
            obtain ⟨Al, cl, rfl⟩ := Kd.R_slice HC.out.2.1
            have OKB : Aside0 (∀ x ∈ l0.map iniT, okB 0 x) := ⟨by
              intro x hx
              obtain ⟨t, ht, rfl⟩ := List.mem_map.1 hx
              have := goodTB_iff (HGD.out.2 (qT t) (List.mem_map_of_mem ht))
              simp only [qT] at this
              exact ⟨⟨by show 1 ≤ t.f0; omega, by show t.f0 ≤ 10000; omega⟩, ⟨by show 1 ≤ t.f1; omega, by show t.f1 ≤ 1000; omega⟩, ⟨by show 0 ≤ t.f2; omega, by show t.f2 ≤ 1000; omega⟩, ⟨by show (-1 : Int) ≤ -1; omega, by show (-1 : Int) ≤ 0 - 1; omega⟩, ⟨by show (0 : Int) ≤ 0; omega, by show (0 : Int) ≤ 0 + 10000; omega⟩, ⟨by show (0 : Int) ≤ 0; omega, by show (0 : Int) ≤ 1000; omega⟩, by show -1 - 0 ≤ t.f2 - 1; omega, by show t.f2 - 1 ≤ 1000; omega⟩⟩
            have HLA : Aside0 (A.length ≤ 20 ∧ (l0.map iniT).length ≤ 20) := ⟨by have h1 := HC.out.2.2.2.2.2.1; have h2 := HGD.out.1; simp at h1 h2; simp; omega⟩
            generalize hS0 : l0.map iniT = S0 at *
            have HS0 := Aside0.mk hS0
            clear hS0
            go_loopw [63] (fun v63 wq => ∃ (k : Int) (vt vm : Value), 0 ≤ k ∧ k ≤ a2 ∧ v63 = .int .i64 k ∧ Aside0 (RunC wG wq R (.slice Al A.length cl) vt vm A (runTo a1 S0 k.toNat).S a1 (runTo a1 S0 k.toNat).T (runTo a1 S0 k.toNat).M) ∧ Aside0 (Below wG.heap.size wG wq)) (fun v63 _ => a2.toNat - (intOf v63).toNat)
            case atStart => exact ⟨0, _, _, by omega, by omega, rfl, HC, HB⟩
            case round =>
              clear HC HB
              obtain ⟨k, vt, vm, hk0, hk, rfl, HC, HB⟩ := hrel
              by_cases hlt : k < a2
              · have hbd := run_bd a1 S0 OKB.out k.toNat
                have hTl := runTo_T a1 S0 k.toNat
                have hSl := runTo_len a1 S0 k.toNat
                have HNX : Aside0 (runTo a1 S0 (k + 1).toNat = stepS a1 k (runTo a1 S0 k.toNat)) := ⟨by rw [show (k + 1).toNat = k.toNat + 1 by omega, runTo, Int.toNat_of_nonneg hk0]⟩
                rw [Int.toNat_of_nonneg hk0] at hbd
                have HML : Aside0 ((runTo a1 S0 k.toNat).M.length ≤ 200000) := ⟨by have := Nat.mul_le_mul (show k.toNat ≤ 10000 by omega) HLA.out.2; omega⟩
                have HTL : Aside0 ((runTo a1 S0 k.toNat).T.length ≤ 10000) := ⟨by omega⟩
                have HBD := Aside0.mk hbd.1
                clear hbd hTl
                have hwk : wrap64 (k + 1) = k + 1 := by simp only [wrap64]; omega
                generalize runTo a1 S0 k.toNat = r at *
                have cR0 : wr.cell? ⟨R, 0, none⟩ = some (.slice Al A.length cl) := (blk_cell HC.out.1 0).trans rfl
                have hz : decide (k < a2) = true := decide_eq_true hlt
                go_wp2
                go_loopw [71] (fun v71 wi => ∃ (i : Int) (vm' : Value), 0 ≤ i ∧ i ≤ A.length ∧ v71 = .int .i64 i ∧ Aside0 (RunC wG wi R (.slice Al A.length cl) vt vm' A ((r.S.take i.toNat).map (tq a1 k) ++ r.S.drop i.toNat) a1 r.T (r.M ++ mkl k 0 (r.S.take i.toNat))) ∧ Aside0 (Below wG.heap.size wG wi)) (fun v71 _ => A.length - (intOf v71).toNat)
                case atStart => exact ⟨0, vm, by omega, by omega, rfl, ⟨by show RunC wG wr R _ vt vm A ((r.S.take 0).map (tq a1 k) ++ r.S.drop 0) a1 r.T (r.M ++ mkl k 0 (r.S.take 0)); simp only [List.take_zero, List.map_nil, List.nil_append, List.drop_zero, mkl, List.append_nil]; exact HC.out⟩, HB⟩
                case round =>
                  clear HC HB cR0 vm
                  obtain ⟨i, vm, hi0, hi, rfl, HC, HB⟩ := hrel
                  have hal := HC.out.2.2.2.2.2.1
                  rw [mid_len] at hal
                  have HAL := Aside0.mk hal
                  by_cases hli : i < A.length
                  · obtain ⟨x, hx⟩ : ∃ x, r.S[i.toNat]? = some x := ⟨_, List.getElem?_eq_getElem (by omega)⟩
                    have hmx := mid_get (tq a1 k) i.toNat r.S x hx
                    have hxb := HBD.out x (List.mem_of_getElem? hx)
                    obtain ⟨ad, rfl, hp⟩ := ptr_at (Kd.R_reads' HC.out.2.1).2.2 i hi0 hli
                    have hai : A[i.toNat]? = some (A.getD i.toNat 0) := by rw [List.getD_eq_getElem?_getD, List.getElem?_eq_getElem (by omega)]; rfl
                    have hst := (HC.out.2.2.2.2.2.2 _ _ _ hai hmx).1
                    have hc0 := (blk_cell hst 0).trans (show (stC x)[0]? = some (.int .i64 x.p) from rfl)
                    generalize A.getD i.toNat 0 = a at *
                    have hml := mkl_len k (r.S.take i.toNat) 0
                    have hp1 : 1 ≤ x.p := hxb.1.1
                    have hp0 : ¬ x.p = 0 := by omega
                    have hpz : (x.p == 0) = false := by simpa using hp0
                    have hwi : wrap64 (i + 1) = i + 1 := by have := HLA.out.1; simp only [wrap64]; omega
                    have e1 := map_take (tq a1 k) i.toNat r.S x hx
                    have e2 := mkl_take k i.toNat 0 r.S x hx
                    have e3 := map_skip (tq a1 k) i.toNat r.S x hx
                    rw [Nat.zero_add] at e2
                    by_cases hd : k.tmod x.p = 0
                    · have hq : tq a1 k x = turnS a1 x k := if_pos hd
                      have hm : mq k i.toNat x = markS i.toNat x := if_pos hd
                      have CT := turn_c wG wr R (.slice (some ad) A.length cl) vt vm A _ a1 r.T _ i k x HC.out HB.out hi0 hli (by have := HLA.out.1; omega) hmx (okB_bd (by omega) hxb) (by have := hxb.2.2.2.1.2; omega) (by rw [List.length_append]; have := HML.out; have := HLA.out; rw [List.length_take] at hml; omega) hk0 (by omega) HGR.out
                      rw [← hq, e1, List.append_assoc, ← hm, ← e2] at CT
                      have CT := Aside0.mk CT
                      have z : (k % x.p == 0) = true := by rw [Int.tmod_eq_emod_of_nonneg hk0] at hd; simpa using hd
                      clear e1 e2 e3 hq hm hd hst hai hmx hx hxb hml hal hk hlt
                      go_wp2_with (first | (go_at_call 22; (with_reducible refine CT.out.mono ?_); rintro e w7 ⟨rfl, ⟨vm2, hC2⟩, hB2⟩; have HC2 := Aside0.mk hC2; have HB2 := Aside0.mk hB2; clear hC2 hB2))
                      exact ⟨⟨i + 1, vm2, by omega, by omega, by rw [hwi], ⟨by rw [show (i + 1).toNat = i.toNat + 1 by omega]; exact HC2.out⟩, HB2⟩, by rw [hwi]; simp [intOf]; omega⟩
                    · have hq : tq a1 k x = x := if_neg hd
                      have hm : mq k i.toNat x = [] := if_neg hd
                      have HC3 := HC.out
                      rw [e3 hq, ← List.append_nil (mkl k 0 (List.take i.toNat r.S)), ← hm, ← e2] at HC3
                      have HC2 := Aside0.mk HC3
                      have z : (k % x.p == 0) = false := by rw [Int.tmod_eq_emod_of_nonneg hk0] at hd; simpa using hd
                      clear e1 e2 e3 hq hm hd hst hai hmx hx hxb hml hal hk hlt HC3 HC
                      go_wp2
                      exact ⟨⟨i + 1, vm, by omega, by omega, by rw [hwi], ⟨by rw [show (i + 1).toNat = i.toNat + 1 by omega]; exact HC2.out⟩, HB⟩, by rw [hwi]; simp [intOf]; omega⟩
                  · have hie : i = (A.length : Int) := by omega
                    have hzz : decide (i < (A.length : Int)) = false := decide_eq_false hli
                    have HC3 := HC.out
                    rw [show i.toNat = r.S.length by omega, mid_all, List.take_length] at HC3
                    have hml := mkl_len k r.S 0
                    have CT := tick_c wG wr R (.slice Al A.length cl) vt vm A _ a1 r.T _ HC3 HB.out (by have := HLA.out.1; omega) (fun x hx => okB_bd (k := k + 1) (by omega) (by obtain ⟨y, hy, rfl⟩ := List.mem_map.1 hx; exact tq_bd hk0 (HBD.out y hy))) (by have := HTL.out; omega) HGR.out
                    have CT := Aside0.mk CT
                    clear HC3 HC hml hal hi hi0 hli
                    subst hie
                    go_wp2_with (first | (go_at_call 23; (with_reducible refine CT.out.mono ?_); rintro e w7 ⟨rfl, ⟨vt2, vm2, hC2⟩, hB2⟩; have HC2 := Aside0.mk hC2; have HB2 := Aside0.mk hB2; clear hC2 hB2))
                    exact ⟨⟨k + 1, vt2, vm2, by omega, by omega, by first | rfl | rw [hwk], ⟨by rw [HNX.out]; exact HC2.out⟩, HB2⟩, by (try rw [hwk]); simp [intOf]; omega⟩
              · have hie : k = a2 := by omega
                have hz : decide (k < a2) = false := decide_eq_false hlt
                subst hie
                have hB := HB.out
                have hg0 := (hB.block w.heap.size (blk_lt HW2.out)).trans HW2.out
                have HGG := Aside0.mk hg0
                have hg1 : wr.cell? ⟨w.heap.size, 0, none⟩ = some (.slice none 0 0) := (blk_cell hg0 0).trans rfl
                have hg2 : wr.cell? ⟨w.heap.size, 1, none⟩ = some (.slice none 0 0) := (blk_cell hg0 1).trans rfl
                have hf1 := blk_frozen hg0 0
                have hf2 := blk_frozen hg0 1
                have cR2 : wr.cell? ⟨R, 2, none⟩ = some vt := (blk_cell HC.out.1 2).trans rfl
                have cR3 : wr.cell? ⟨R, 3, none⟩ = some vm := (blk_cell HC.out.1 3).trans rfl
                obtain ⟨At, ct, rfl⟩ := Kd.R_slice HC.out.2.2.1
                obtain ⟨Am, cm, rfl⟩ := Kd.R_slice HC.out.2.2.2.1
                clear hB hg0 hk hk0 hlt
                go_wp2
                have GB1 := blk_put (cs' := #[.slice At (runTo a1 S0 k.toNat).T.length ct, .slice none 0 0]) HGG.out 0 (.slice At (runTo a1 S0 k.toNat).T.length ct) rfl
                have GB2 := blk_put (cs' := #[.slice At (runTo a1 S0 k.toNat).T.length ct, .slice Am (runTo a1 S0 k.toNat).M.length cm]) GB1 1 (.slice Am (runTo a1 S0 k.toNat).M.length cm) rfl
                refine bodyPost_ret (results_ct rfl _ _ w.heap.size 28 #[.slice At (runTo a1 S0 k.toNat).T.length ct, .slice Am (runTo a1 S0 k.toNat).M.length cm] (0, 0) _ rfl GB2 Try.underlying28 rfl (by kernel_rfl)) rfl ?_
                rw [HS0.out]
                refine ⟨_, _, rfl, Kd.R_lower (Kd.R_set (Kd.R_set HC.out.2.2.1 HGG.out (by intro q hq; simp [Kd.int, Kd.scalar] at hq; subst hq; decide) _ _) GB1 (by intro q hq; simp [Kd.int, Kd.scalar] at hq; subst hq; decide) _ _) (below_size HW1.out), Kd.R_lower (Kd.R_set (Kd.R_set HC.out.2.2.2.1 HGG.out (by intro q hq; simp [k33, Kd.iso, Kd.pair, Kd.int, Kd.bool, Kd.scalar] at hq; subst hq; decide) _ _) GB1 (by intro q hq; simp [k33, Kd.iso, Kd.pair, Kd.int, Kd.bool, Kd.scalar] at hq; subst hq; decide) _ _) (below_size HW1.out), low_set (low_set (below_step HW1.out HB.out) (Nat.le_refl _) _ _) (Nat.le_refl _) _ _⟩

end Go.Proofs.Ytkjboaepeecinaa.PSk
