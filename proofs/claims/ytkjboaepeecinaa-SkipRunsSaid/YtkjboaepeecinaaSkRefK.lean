/- The reference's Run as it lies on the heap. -/
import Derived.Test.YtkjboaepeecinaaPSkx0
import Derived.Test.YtkjboaepeecinaaSkSim
import Derived.Test.YtkjboaepeecinaaSkTick
namespace Go.Proofs.Ytkjboaepeecinaa.PSk
open Go.RowKit Go.Proofs.Ytkjboaepeecinaa.PSk Go.Proofs.YtkjboaepeecinaaW.PrintWords Go.Proofs.YtkjboaepeecinaaW.PrintLast Go.Proofs.YtkjboaepeecinaaW.PrintMore 
set_option linter.unusedVariables false
set_option linter.unusedSimpArgs false

def RefC (W0 W : World) (O : Nat) (v vt vm : Value) (xs : List S68) (T : List Int) (M : List S69) : Prop :=
  W.heap[O]? = some (.cells #[vt, vm] 42 (0, 0)) ∧ W0.heap.size ≤ O ∧ Kd.Q k68 68 W W0.heap.size (fun _ => True) v xs ∧
    Kd.R (Kd.int .i64) 3 W W0.heap.size (fun _ => True) vt T ∧ Kd.R k69 69 W W0.heap.size (fun _ => True) vm M
theorem e_int {q t : Nat} (hq : q ∈ 3 :: (Kd.int .i64).E) (ht : t ≠ 3) : q ≠ t := by simp [Kd.int, Kd.scalar] at hq; subst hq; exact fun h => ht h.symm
theorem e_69 {q t : Nat} (hq : q ∈ 69 :: k69.E) (ht : t ≠ 69) : q ≠ t := by simp [k69, Kd.iso, Kd.pair, Kd.int, Kd.bool, Kd.scalar] at hq; subst hq; exact fun h => ht h.symm
theorem e_68 {q t : Nat} (hq : q ∈ 68 :: k68.E) (ht : t ≠ 68) : q ≠ t := by simp [k68, Kd.iso, Kd.pair, Kd.int, Kd.bool, Kd.scalar] at hq; subst hq; exact fun h => ht h.symm
theorem Q_other {α β : Type} {d : Kd α} {d' : Kd β} {e e' b : Nat} {w w1 : World} {ok ok' : Nat → Prop} {v v' : Value} {xs : List α} {ys : List β} (h : d.Q e w b ok v xs) (h' : d'.R e' w b ok' v' ys) (ht : ∀ q ∈ e :: d.E, q ≠ e') (hg : w.grownBy w1 v'.ownBlock) : d.Q e w1 b ok v xs := by
  refine Kd.Q_mono (Kd.Q_grown (Kd.Q_bound h) hg (fun k hk heq => ?_)) (fun _ hk => hk.1)
  obtain ⟨_, _, _, q, hq, cells, hc⟩ := hk
  obtain ⟨_, inner, ho, _⟩ := h'
  obtain ⟨cells', hc'⟩ := own_typed ho k heq.symm
  rw [hc] at hc'
  injection hc' with hc'
  injection hc' with _ hc'
  exact ht q hq hc'
theorem RefC_M {W0 W w1 : World} {O : Nat} {v vt vm v1 : Value} {xs : List S68} {T : List Int} {M M1 : List S69} (h : RefC W0 W O v vt vm xs T M) (hg : W.grownBy w1 vm.ownBlock) (ho : Kd.R k69 69 w1 W0.heap.size (fun _ => True) v1 M1) :
    RefC W0 (w1.setCell ⟨O, 1, none⟩ v1) O v vt v1 xs T M1 := by
  obtain ⟨BK, hO, HX, HT, HM⟩ := h
  have BK1 := blk_grown BK hg (Kd.R_ne HM BK (by decide))
  exact ⟨blk_put BK1 1 v1 rfl, hO, Kd.Q_set (Q_other HX HM (fun q hq => e_68 hq (by decide)) hg) BK1 (fun q hq => e_68 hq (by decide)) _ _, Kd.R_set (R_other HT HM (fun q hq => e_int hq (by decide)) hg) BK1 (fun q hq => e_int hq (by decide)) _ _, Kd.R_set ho BK1 (fun q hq => e_69 hq (by decide)) _ _⟩
theorem RefC_T {W0 W w1 : World} {O : Nat} {v vt vm v1 : Value} {xs : List S68} {T T1 : List Int} {M : List S69} (h : RefC W0 W O v vt vm xs T M) (hg : W.grownBy w1 vt.ownBlock) (ho : Kd.R (Kd.int .i64) 3 w1 W0.heap.size (fun _ => True) v1 T1) :
    RefC W0 (w1.setCell ⟨O, 0, none⟩ v1) O v v1 vm xs T1 M := by
  obtain ⟨BK, hO, HX, HT, HM⟩ := h
  have BK1 := blk_grown BK hg (Kd.R_ne HT BK (by decide))
  exact ⟨blk_put BK1 0 v1 rfl, hO, Kd.Q_set (Q_other HX HT (fun q hq => e_68 hq (by decide)) hg) BK1 (fun q hq => e_68 hq (by decide)) _ _, Kd.R_set ho BK1 (fun q hq => e_int hq (by decide)) _ _, Kd.R_set (R_other HM HT (fun q hq => e_69 hq (by decide)) hg) BK1 (fun q hq => e_69 hq (by decide)) _ _⟩
theorem RefC_drewN {W0 W : World} {O : Nat} {v vt vm : Value} {xs : List S68} {T : List Int} {M : List S69} (h : RefC W0 W O v vt vm xs T M) (n : Nat) : RefC W0 (W.drewN n) O v vt vm xs T M :=
  ⟨h.1, h.2.1, Kd.Q_drewN h.2.2.1 n, Kd.R_drewN h.2.2.2.1 n, Kd.R_drewN h.2.2.2.2 n⟩
theorem RefC_drew {W0 W : World} {O : Nat} {v vt vm : Value} {xs : List S68} {T : List Int} {M : List S69} (h : RefC W0 W O v vt vm xs T M) : RefC W0 W.drew O v vt vm xs T M :=
  ⟨h.1, h.2.1, Kd.Q_drew h.2.2.1, Kd.R_drew h.2.2.2.1, Kd.R_drew h.2.2.2.2⟩
/-- A field of a life is written. -/
theorem RefC_put {W0 W : World} {O g o n cap : Nat} {vt vm : Value} {xs : List S68} {T : List Int} {M : List S69} (h : RefC W0 W O (.slice (some ⟨g, o, none⟩) n cap) vt vm xs T M) (i : Int) (h0 : 0 ≤ i) (h1 : i < n) (x : S68) (hx : xs.getD i.toNat z68 = x) (j : Nat) (hj : j < 5) (u : Value) (y : S68) (hy : (lfC x).set j u = lfC y) :
    RefC W0 (W.setCell ⟨g, o + i.toNat * 5 + j, none⟩ u) O (.slice (some ⟨g, o, none⟩) n cap) vt vm (xs.set i.toNat y) T M := by
  obtain ⟨BK, hO, HX, HT, HM⟩ := h
  obtain ⟨_, cells, hc⟩ := lf_typed HX
  exact ⟨blk_far BK (blk_ne BK hc (by decide)) _, hO, (lf_put HX i h0 h1 x hx j hj u y hy).1, Kd.R_set HT hc (fun q hq => e_int hq (by decide)) _ _, Kd.R_set HM hc (fun q hq => e_69 hq (by decide)) _ _⟩
/-- The colour has been asked: one field of one life may have been written, some room made. -/
theorem RefC_col {W0 W w' : World} {O g o n cap : Nat} {vt vm : Value} {xs : List S68} {T : List Int} {M : List S69} {cur : Array Value} (h : RefC W0 W O (.slice (some ⟨g, o, none⟩) n cap) vt vm xs T M) (hc : W.heap[g]? = some (.cells cur 68 (0, 0))) (i : Int) (h0 : 0 ≤ i) (h1 : i < n) (x : S68) (hx : xs.getD i.toNat z68 = x) (r : Int)
    (hk : KeepBut W w' g none) (hb : w'.heap[g]? = some (.cells (cur.setIfInBounds (o + i.toNat * 5 + 2) (.int .i64 r)) 68 (0, 0))) :
    RefC W0 w' O (.slice (some ⟨g, o, none⟩) n cap) vt vm (xs.set i.toNat ⟨x.f0, x.f1, r, x.f3, x.f4⟩) T M := by
  obtain ⟨BK, hO, HX, HT, HM⟩ := h
  refine ⟨hk.blk BK (blk_ne BK hc (by decide)) (by simp), hO, ?_, Kd.R_mono (Kd.R_keep (Kd.R_types HT hc (fun q hq => e_int hq (by decide))) hk (fun _ h => h.2)) (fun _ _ => trivial), Kd.R_mono (Kd.R_keep (Kd.R_types HM hc (fun q hq => e_69 hq (by decide))) hk (fun _ h => h.2)) (fun _ _ => trivial)⟩
  have hp := (lf_put HX i h0 h1 x hx 2 (by decide) (.int .i64 r) ⟨x.f0, x.f1, r, x.f3, x.f4⟩ rfl).1
  refine Kd.Q_step hp fun k _ hlt => ?_
  have hlt' : k < W.heap.size := by simpa using hlt
  by_cases hkg : k = g
  · subst hkg
    rw [hb, blk_set hc]
  · rw [hk.2 k hlt' hkg (by simp), Below.heap_setCell W _ _ k (by simpa using hkg)]
def cv (m : S33) : S69 := ⟨m.f0, m.f1, m.f2, m.f3⟩
def iniR (t : S66) : St := ini t.f0 t.f1 t.f2

end Go.Proofs.Ytkjboaepeecinaa.PSk
