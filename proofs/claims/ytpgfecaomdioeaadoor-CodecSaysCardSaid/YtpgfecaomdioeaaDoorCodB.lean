/- The contracts of codec's reader.text and reader.truth. codec.GetJobs: what is read, in plain lists, and the state of a round on the heap. The contract of codec.GetJobs. -/
-- slim
import Derived.Test.YtpgfecaomdioeaaDoorPCtx2
import Derived.Test.YtpgfecaomdioeaaDoorCodA
import Derived.Test.YtpgfecaomdioeaaDoorPCtx3
import Derived.Test.YtpgfecaomdioeaaDoorStCj
namespace Go.Proofs.YtpgfecaomdioeaaDoor.PCt
open Go.RowKit Go.Proofs.YtpgfecaomdioeaaDoor.PCt Go.Proofs.YtpgfecaomdioeaaDoorW.PrintWords Go.Proofs.YtpgfecaomdioeaaDoorW.PrintLast Go.Proofs.YtpgfecaomdioeaaDoorW.PrintMore 
set_option linter.unusedVariables false
set_option linter.unusedSimpArgs false

def txS (l : List Int) (m : Nat) : ByteArray := if l.length < m then ⟨#[]⟩ else strOfNums (l.take m)
def txR (l : List Int) (m : Nat) : List Int := if l.length < m then [] else l.drop m
def txB (l : List Int) (bad : Bool) (m : Nat) : Bool := if l.length < m then true else bad
theorem end_bad0 {W0 W : World} {R : Nat} {S : Value} {b : Bool} (BK : W.heap[R]? = some (.cells #[S, .bool b] 54 (0, 0))) (hB : Below W0.heap.size W0 W) (hg : W0.heap.size ≤ R) :
  RdrV W0 ((W.setCell ⟨R, 0, none⟩ (.slice none 0 0)).setCell ⟨R, 1, none⟩ (.bool true)) R [] true ∧ Below W0.heap.size W0 ((W.setCell ⟨R, 0, none⟩ (.slice none 0 0)).setCell ⟨R, 1, none⟩ (.bool true)) ∧ KeepBut W ((W.setCell ⟨R, 0, none⟩ (.slice none 0 0)).setCell ⟨R, 1, none⟩ (.bool true)) R none :=
 ⟨⟨none, 0, blk_put (blk_put BK 0 _ rfl) 1 _ rfl, Kd.C_nil _ _, Nat.le_refl _⟩, low_set (low_set hB hg _ _) hg _ _, keep_set (keep_set ⟨Nat.le_refl _, fun _ _ _ _ => rfl⟩ _ _) _ _⟩
theorem end_ok0 {W0 W : World} {R : Nat} {S : Value} {b : Bool} (BK : W.heap[R]? = some (.cells #[S, .bool b] 54 (0, 0))) (hB : Below W0.heap.size W0 W) (hg : W0.heap.size ≤ R) {A : Option Addr} {l : List Int} {c : Nat} (hC : Kd.C (Kd.int .u8) W0 A l.length l) (hc : l.length ≤ c) (k : Nat) (hk : k ≤ l.length) (A' : Option Addr) (c' : Nat) (hA : A' = (if c = k then A else A.map (·.add k)) ∧ c' = c - k) (m : Nat) (hm : m = l.length - k) :
  RdrV W0 (W.setCell ⟨R, 0, none⟩ (.slice A' m c')) R (l.drop k) b ∧ Below W0.heap.size W0 (W.setCell ⟨R, 0, none⟩ (.slice A' m c')) ∧ KeepBut W (W.setCell ⟨R, 0, none⟩ (.slice A' m c')) R none := by
 obtain ⟨rfl, rfl⟩ := hA
 subst hm
 have h1 := Kd.C_drop (c := c) hC hk hc
 rw [show (Kd.int IntKind.u8).sz = 1 from rfl, Nat.mul_one] at h1
 refine ⟨⟨_, c - k, ?_, h1, by rw [List.length_drop]; omega⟩, low_set hB hg _ _, keep_set ⟨Nat.le_refl _, fun _ _ _ _ => rfl⟩ _ _⟩
 rw [List.length_drop]
 exact blk_put BK 0 _ rfl
set_option maxHeartbeats 4000000 in
set_option maxRecDepth 100000 in
theorem text_c (W0 W : World) (R : Nat) (l : List Int) (bad : Bool) (m : Nat) (hR : RdrV W0 W R l bad) (hB : Below W0.heap.size W0 W) (hg : W0.heap.size ≤ R) (hm : m ≤ 9223372036854775807) :
  Calls Tryd.prog 24 #[.pointer (some ⟨R, 0, none⟩), .int .i64 m] W fun e w' => e = .returned (.string (txS l m)) ∧ RdrV W0 w' R (txR l m) (txB l bad m) ∧ Below W0.heap.size W0 w' ∧ KeepBut W w' R none := by
 obtain ⟨A, c, BK, hC, hc⟩ := hR
 have hc0 := (blk_cell BK 0).trans rfl
 have hc1 := (blk_cell BK 1).trans rfl
 have hf0 := blk_frozen BK 0
 have hf1 := blk_frozen BK 1
 have hlen : l.length ≤ 9223372036854775807 := hC.2.1
 have HC := Aside0.mk hC
 have HBK := Aside0.mk BK
 have HB := Aside0.mk hB
 have HG := Aside0.mk hg
 have HCC := Aside0.mk hc
 clear hC BK hB
 unfold txS txR txB
 by_cases h : l.length < m
 ·rw [if_pos h, if_pos h, if_pos h]
  have e1 : decide ((m : Int) > (l.length : Int)) = true := decide_eq_true (by omega)
  have e2 : decide (l.length < m) = true := decide_eq_true (by omega)
  clear h
  go_enter Tryd.func24, Tryd.ntmps24
  go_wp2
  go_ret
  exact ⟨rfl, end_bad0 HBK.out HB.out HG.out⟩
 ·rw [if_neg h, if_neg h, if_neg h]
  have hT := Kd.C_take (m := m) (Kd.C_below HC.out HB.out) (by omega)
  have hl : (l.take m).length = m := by rw [List.length_take]; omega
  have hcv := Kd.C_string (P := Tryd.prog) (A := A) (c := c) Tryd.underlying27 Tryd.underlying5 Tryd.underlying9 hT
  rw [hl] at hcv
  have e1 : decide ((m : Int) > (l.length : Int)) = false := decide_eq_false (by omega)
  have e2 : decide (l.length < m) = false := decide_eq_false (by omega)
  have y0 : ((0 : Int) ≤ (m : Int)) = True := eq_true (by omega)
  have y1 : ((m : Int) ≤ (l.length : Int)) = True := eq_true (by omega)
  have y2 : ((l.length : Int) ≤ (c : Int)) = True := eq_true (by omega)
  have y3 : ((m : Int) ≤ (c : Int)) = True := eq_true (by omega)
  have HM := Aside0.mk (show m ≤ l.length by omega)
  clear h hT hl
  go_enter Tryd.func24, Tryd.ntmps24
  go_wp2
  ·go_ret
   exact ⟨rfl, end_ok0 HBK.out HB.out HG.out HC.out HCC.out m HM.out _ _ ⟨(if_pos (by omega)).symm, by omega⟩ _ rfl⟩
  ·go_ret
   exact ⟨rfl, end_ok0 HBK.out HB.out HG.out HC.out HCC.out m HM.out _ _ ⟨(if_neg (by omega)).symm, rfl⟩ _ rfl⟩
def trV : List Int → Bool
 | [] => false
 | c :: _ => decide (c = 1)
def trB (bad : Bool) : List Int → Bool
 | [] => true
 | c :: _ => bad || (decide (c ≠ 0) && decide (c ≠ 1))
theorem str1 (c : Int) (t : List Int) : txS (c :: t) 1 = strOfNums [c] ∧ txR (c :: t) 1 = t ∧ ∀ bad, txB (c :: t) bad 1 = bad := by
 unfold txS txR txB
 rw [if_neg (by simp), if_neg (by simp)]
 refine ⟨rfl, rfl, fun bad => by rw [if_neg (by simp)]⟩
theorem end_tr {W0 W w9 : World} {R : Nat} {l : List Int} {A1 : Option Addr} {c1 : Nat} {b0 : Bool} (h : w9.heap[R]? = some (.cells #[.slice A1 l.length c1, .bool b0] 54 (0, 0)) ∧ Kd.C (Kd.int .u8) W0 A1 l.length l ∧ l.length ≤ c1 ∧ Below W0.heap.size W0 w9 ∧ KeepBut W w9 R none) (hg : W0.heap.size ≤ R) (b b' : Bool) (hb : b = b') :
  RdrV W0 (w9.setCell ⟨R, 1, none⟩ (.bool b)) R l b' ∧ Below W0.heap.size W0 (w9.setCell ⟨R, 1, none⟩ (.bool b)) ∧ KeepBut W (w9.setCell ⟨R, 1, none⟩ (.bool b)) R none := by
 subst hb
 exact ⟨⟨A1, c1, blk_put h.1 1 _ rfl, h.2.1, h.2.2.1⟩, low_set h.2.2.2.1 hg _ _, keep_set h.2.2.2.2 _ _⟩
set_option maxHeartbeats 4000000 in
set_option maxRecDepth 100000 in
theorem truth_c (W0 W : World) (R : Nat) (l : List Int) (bad : Bool) (hR : RdrV W0 W R l bad) (hB : Below W0.heap.size W0 W) (hg : W0.heap.size ≤ R) (hb : ∀ x ∈ l, 0 ≤ x ∧ x < 256) :
  Calls Tryd.prog 25 #[.pointer (some ⟨R, 0, none⟩)] W fun e w' => e = .returned (.bool (trV l)) ∧ RdrV W0 w' R l.tail (trB bad l) ∧ Below W0.heap.size W0 w' ∧ KeepBut W w' R none := by
 have HG := Aside0.mk hg
 have CT := text_c W0 W R l bad 1 hR hB hg (by decide)
 cases l with
 | nil =>
  have CT2 : Aside0 (Calls Tryd.prog 24 #[.pointer (some ⟨R, 0, none⟩), .int .i64 1] W fun e w' => e = .returned (.string ⟨#[]⟩) ∧ RdrV W0 w' R [] true ∧ Below W0.heap.size W0 w' ∧ KeepBut W w' R none) := ⟨CT⟩
  clear CT hR hB
  go_enter Tryd.func25, Tryd.ntmps25
  go_wp2_with (first | (go_at_call 24; (with_reducible refine CT2.out.mono ?_); rintro e w9 ⟨rfl, hRd, hB, hK⟩; obtain ⟨A1, c1, BK, hC1, hc1⟩ := hRd; have hcell1 : w9.cell? ⟨R, 1, none⟩ = some (.bool _) := (blk_cell BK 1).trans rfl; have hf1 := blk_frozen BK 1; have HX := Aside0.mk (And.intro BK (And.intro hC1 (And.intro hc1 (And.intro hB hK)))); clear BK hC1 hc1 hB hK))
  go_ret
  exact ⟨rfl, end_tr (l := []) HX.out HG.out _ _ rfl⟩
 | cons c t =>
  rw [(str1 c t).1, (str1 c t).2.1, (str1 c t).2.2] at CT
  have hc := hb c (List.mem_cons_self ..)
  by_cases h0 : c = 0
  ·subst h0
   have CT2 : Aside0 (Calls Tryd.prog 24 #[.pointer (some ⟨R, 0, none⟩), .int .i64 1] W fun e w' => e = .returned (.string ⟨#[0]⟩) ∧ RdrV W0 w' R t bad ∧ Below W0.heap.size W0 w' ∧ KeepBut W w' R none) := ⟨CT⟩
   clear CT hR hB
   cases bad
   ·go_enter Tryd.func25, Tryd.ntmps25
    go_wp2_with (first | (go_at_call 24; (with_reducible refine CT2.out.mono ?_); rintro e w9 ⟨rfl, hRd, hB, hK⟩; obtain ⟨A1, c1, BK, hC1, hc1⟩ := hRd; have hcell1 : w9.cell? ⟨R, 1, none⟩ = some (.bool _) := (blk_cell BK 1).trans rfl; have hf1 := blk_frozen BK 1; have HX := Aside0.mk (And.intro BK (And.intro hC1 (And.intro hc1 (And.intro hB hK)))); clear BK hC1 hc1 hB hK))
    go_ret
    exact ⟨rfl, end_tr (l := t) HX.out HG.out _ _ rfl⟩
   ·go_enter Tryd.func25, Tryd.ntmps25
    go_wp2_with (first | (go_at_call 24; (with_reducible refine CT2.out.mono ?_); rintro e w9 ⟨rfl, hRd, hB, hK⟩; obtain ⟨A1, c1, BK, hC1, hc1⟩ := hRd; have hcell1 : w9.cell? ⟨R, 1, none⟩ = some (.bool _) := (blk_cell BK 1).trans rfl; have hf1 := blk_frozen BK 1; have HX := Aside0.mk (And.intro BK (And.intro hC1 (And.intro hc1 (And.intro hB hK)))); clear BK hC1 hc1 hB hK))
    go_ret
    exact ⟨rfl, end_tr (l := t) HX.out HG.out _ _ rfl⟩
  by_cases h1 : c = 1
  ·subst h1
   have CT2 : Aside0 (Calls Tryd.prog 24 #[.pointer (some ⟨R, 0, none⟩), .int .i64 1] W fun e w' => e = .returned (.string ⟨#[1]⟩) ∧ RdrV W0 w' R t bad ∧ Below W0.heap.size W0 w' ∧ KeepBut W w' R none) := ⟨CT⟩
   clear CT hR hB
   cases bad
   ·go_enter Tryd.func25, Tryd.ntmps25
    go_wp2_with (first | (go_at_call 24; (with_reducible refine CT2.out.mono ?_); rintro e w9 ⟨rfl, hRd, hB, hK⟩; obtain ⟨A1, c1, BK, hC1, hc1⟩ := hRd; have hcell1 : w9.cell? ⟨R, 1, none⟩ = some (.bool _) := (blk_cell BK 1).trans rfl; have hf1 := blk_frozen BK 1; have HX := Aside0.mk (And.intro BK (And.intro hC1 (And.intro hc1 (And.intro hB hK)))); clear BK hC1 hc1 hB hK))
    go_ret
    exact ⟨rfl, end_tr (l := t) HX.out HG.out _ _ rfl⟩
   ·go_enter Tryd.func25, Tryd.ntmps25
    go_wp2_with (first | (go_at_call 24; (with_reducible refine CT2.out.mono ?_); rintro e w9 ⟨rfl, hRd, hB, hK⟩; obtain ⟨A1, c1, BK, hC1, hc1⟩ := hRd; have hcell1 : w9.cell? ⟨R, 1, none⟩ = some (.bool _) := (blk_cell BK 1).trans rfl; have hf1 := blk_frozen BK 1; have HX := Aside0.mk (And.intro BK (And.intro hC1 (And.intro hc1 (And.intro hB hK)))); clear BK hC1 hc1 hB hK))
    go_ret
    exact ⟨rfl, end_tr (l := t) HX.out HG.out _ _ rfl⟩
  ·have et : trV (c :: t) = false := decide_eq_false h1
   have eb : trB bad (c :: t) = true := by simp [trB, h0, h1]
   rw [et, eb]
   obtain ⟨s, hs⟩ : ∃ s, strOfNums [c] = s := ⟨_, rfl⟩
   have n0 : (s.toList == [0]) = false := by
    have h2 := strOf_inj (a := [c]) (b := [0]) (by intro x hx; simp at hx; omega) (by intro x hx; simp at hx; omega)
    rw [hs, show (strOfNums [0]).toList = [0] by first | decide +kernel | (simp [strOfNums, go_sem]; done) | (simp [strOfNums, ByteArray.toList, ByteArray.toList.loop]; done)] at h2
    rw [h2]
    exact decide_eq_false (by simpa using h0)
   have n1 : (s.toList == [1]) = false := by
    have h2 := strOf_inj (a := [c]) (b := [1]) (by intro x hx; simp at hx; omega) (by intro x hx; simp at hx; omega)
    rw [hs, show (strOfNums [1]).toList = [1] by first | decide +kernel | (simp [strOfNums, go_sem]; done) | (simp [strOfNums, ByteArray.toList, ByteArray.toList.loop]; done)] at h2
    rw [h2]
    exact decide_eq_false (by simpa using h1)
   rw [hs] at CT
   have CT2 : Aside0 (Calls Tryd.prog 24 #[.pointer (some ⟨R, 0, none⟩), .int .i64 1] W fun e w' => e = .returned (.string s) ∧ RdrV W0 w' R t bad ∧ Below W0.heap.size W0 w' ∧ KeepBut W w' R none) := ⟨CT⟩
   clear CT hR hB hs hc h0 h1 et eb
   cases bad
   ·go_enter Tryd.func25, Tryd.ntmps25
    go_wp2_with (first | (go_at_call 24; (with_reducible refine CT2.out.mono ?_); rintro e w9 ⟨rfl, hRd, hB, hK⟩; obtain ⟨A1, c1, BK, hC1, hc1⟩ := hRd; have hcell1 : w9.cell? ⟨R, 1, none⟩ = some (.bool _) := (blk_cell BK 1).trans rfl; have hf1 := blk_frozen BK 1; have HX := Aside0.mk (And.intro BK (And.intro hC1 (And.intro hc1 (And.intro hB hK)))); clear BK hC1 hc1 hB hK))
    go_ret
    exact ⟨rfl, end_tr (l := t) HX.out HG.out _ _ rfl⟩
   ·go_enter Tryd.func25, Tryd.ntmps25
    go_wp2_with (first | (go_at_call 24; (with_reducible refine CT2.out.mono ?_); rintro e w9 ⟨rfl, hRd, hB, hK⟩; obtain ⟨A1, c1, BK, hC1, hc1⟩ := hRd; have hcell1 : w9.cell? ⟨R, 1, none⟩ = some (.bool _) := (blk_cell BK 1).trans rfl; have hf1 := blk_frozen BK 1; have HX := Aside0.mk (And.intro BK (And.intro hC1 (And.intro hc1 (And.intro hB hK)))); clear BK hC1 hc1 hB hK))
    go_ret
    exact ⟨rfl, end_tr (l := t) HX.out HG.out _ _ rfl⟩

end Go.Proofs.YtpgfecaomdioeaaDoor.PCt
namespace Go.Proofs.YtpgfecaomdioeaaDoor.PCt
open Go.RowKit Go.Proofs.YtpgfecaomdioeaaDoor.PCt Go.Proofs.YtpgfecaomdioeaaDoorW.PrintWords Go.Proofs.YtpgfecaomdioeaaDoorW.PrintLast Go.Proofs.YtpgfecaomdioeaaDoorW.PrintMore 
set_option linter.unusedVariables false
set_option linter.unusedSimpArgs false

def setF (x : S48) (i : Nat) (v : Int) : S48 := match i with
 | 0 => { x with f1 := v } | 1 => { x with f2 := v } | 2 => { x with f3 := v } | 3 => { x with f4 := v } | 4 => { x with f5 := v } | _ => { x with f6 := v }
def sixJ : Nat → Nat → S48 → List Int → Bool → S48 × List Int × Bool
 | 0, _, x, l, b => (x, l, b)
 | f + 1, i, x, l, b => sixJ f (i + 1) (setF x i (nV l)) (nR l) (nB l b)
def nameJ (l : List Int) : S48 := { z48 with f0 := txS (nR l) (nV l).toNat }
def rdJob (l : List Int) (b : Bool) : S48 × List Int × Bool :=
 let q := sixJ 6 0 (nameJ l) (txR (nR l) (nV l).toNat) (txB (nR l) (nB l b) (nV l).toNat)
 ({ q.1 with f7 := trV q.2.1 }, q.2.1.tail, trB q.2.2 q.2.1)
def jobsL : Nat → List Int → Bool → List S48 → List S48 × List Int × Bool
 | 0, l, b, t => (t, l, b)
 | n + 1, l, b, t => jobsL n (rdJob l b).2.1 (rdJob l b).2.2 (t ++ [(rdJob l b).1])
def cellsJ (x : S48) : Array Value := #[.string x.f0, .int .i64 x.f1, .int .i64 x.f2, .int .i64 x.f3, .int .i64 x.f4, .int .i64 x.f5, .int .i64 x.f6, .bool x.f7]
def ptrs (J : Nat) : Array Value := #[.pointer (some ⟨J, 1, none⟩), .pointer (some ⟨J, 2, none⟩), .pointer (some ⟨J, 3, none⟩), .pointer (some ⟨J, 4, none⟩), .pointer (some ⟨J, 5, none⟩), .pointer (some ⟨J, 6, none⟩)]
/-- The state within a round: W where GetJobs began, wr where the round began. -/
structure JS (W wr w : World) (R J P : Nat) (l : List Int) (b : Bool) (x : S48) : Prop where
 rd : RdrV W w R l b
 bl : Below W.heap.size W w
 kp : KeepBut wr w R none
 jb : w.heap[J]? = some (.cells (cellsJ x) 48 (0, 0))
 pb : w.heap[P]? = some (.cells (ptrs J) 58 (0, 0))
 gR : W.heap.size ≤ R
 gJ : W.heap.size ≤ J
 rJ : wr.heap.size ≤ J
 nJ : J ≠ R
 nP : P ≠ R
 nJP : P ≠ J
theorem heap_keep {w w' : World} {R g : Nat} {o : Obj} (hk : KeepBut w w' R none) (h : w.heap[g]? = some o) (hne : g ≠ R) : w'.heap[g]? = some o := by
 rw [hk.2 g (Array.getElem?_eq_some_iff.1 h).1 hne (by simp)]
 exact h
theorem keep_trans {w w1 w2 : World} {R : Nat} (h1 : KeepBut w w1 R none) (h2 : KeepBut w1 w2 R none) : KeepBut w w2 R none :=
 ⟨Nat.le_trans h1.1 h2.1, fun i hi hne hr => (h2.2 i (Nat.lt_of_lt_of_le hi h1.1) hne hr).trans (h1.2 i hi hne hr)⟩
theorem keep_new {w w1 : World} {R J : Nat} (h1 : KeepBut w w1 R none) (hJ : w.heap.size ≤ J) (i : Nat) (u : Value) : KeepBut w (w1.setCell ⟨J, i, none⟩ u) R none := by
 refine ⟨by have := h1.1; simpa [World.setCell] using this, fun k hk hne hr => ?_⟩
 rw [Below.heap_setCell w1 _ u k (by show k ≠ J; omega)]
 exact h1.2 k hk hne hr
theorem RdrV_far {W w : World} {R J : Nat} {l : List Int} {b : Bool} (h : RdrV W w R l b) (hne : J ≠ R) (i : Nat) (u : Value) : RdrV W (w.setCell ⟨J, i, none⟩ u) R l b := by
 obtain ⟨A, c, BK, h2⟩ := h
 exact ⟨A, c, blk_far BK (fun e => hne e.symm) u, h2⟩
theorem JS.num {W wr w : World} {R J P : Nat} {l : List Int} {b : Bool} {x : S48} (h : JS W wr w R J P l b x) (hb : ∀ c ∈ l, 0 ≤ c ∧ c < 256) :
  Calls Tryd.prog 22 #[.pointer (some ⟨R, 0, none⟩)] w fun e w' => e = .returned (.int .i64 (nV l)) ∧ JS W wr w' R J P (nR l) (nB l b) x := by
 refine (number_s W w R l b h.rd h.bl h.gR hb).mono ?_
 rintro e w' ⟨rfl, hRd, hB, hK⟩
 exact ⟨rfl, hRd, hB, keep_trans h.kp hK, heap_keep hK h.jb h.nJ, heap_keep hK h.pb h.nP, h.gR, h.gJ, h.rJ, h.nJ, h.nP, h.nJP⟩
theorem JS.truth {W wr w : World} {R J P : Nat} {l : List Int} {b : Bool} {x : S48} (h : JS W wr w R J P l b x) (hb : ∀ c ∈ l, 0 ≤ c ∧ c < 256) :
  Calls Tryd.prog 25 #[.pointer (some ⟨R, 0, none⟩)] w fun e w' => e = .returned (.bool (trV l)) ∧ JS W wr w' R J P l.tail (trB b l) x := by
 refine (truth_c W w R l b h.rd h.bl h.gR hb).mono ?_
 rintro e w' ⟨rfl, hRd, hB, hK⟩
 exact ⟨rfl, hRd, hB, keep_trans h.kp hK, heap_keep hK h.jb h.nJ, heap_keep hK h.pb h.nP, h.gR, h.gJ, h.rJ, h.nJ, h.nP, h.nJP⟩
theorem JS.set {W wr w : World} {R J P : Nat} {l : List Int} {b : Bool} {x : S48} (h : JS W wr w R J P l b x) (i : Nat) (u : Value) (y : S48) (hi : i < 8) (hy : (cellsJ x).set! i u = cellsJ y) : JS W wr (w.setCell ⟨J, i, none⟩ u) R J P l b y := by
 refine ⟨RdrV_far h.rd h.nJ _ _, low_set h.bl h.gJ _ _, keep_new h.kp h.rJ _ _, ?_, blk_far h.pb h.nJP u, h.gR, h.gJ, h.rJ, h.nJ, h.nP, h.nJP⟩
 rw [← hy]
 exact blk_put h.jb i u rfl

end Go.Proofs.YtpgfecaomdioeaaDoor.PCt
namespace Go.Proofs.YtpgfecaomdioeaaDoor.PCt
open Go.RowKit Go.Proofs.YtpgfecaomdioeaaDoor.PCt Go.Proofs.YtpgfecaomdioeaaDoorW.PrintWords Go.Proofs.YtpgfecaomdioeaaDoorW.PrintLast Go.Proofs.YtpgfecaomdioeaaDoorW.PrintMore 
set_option linter.unusedVariables false
set_option linter.unusedSimpArgs false

theorem box_any (n : Nat) (A : Option Addr) (c : Nat) (l : List Int) (W : World) (w : World) (hC : Kd.C (Kd.int .u8) W A n l) (hl : l.length = n) (hc : n ≤ c) (b : Bool) : RdrV W (w.alloc (.cells #[.slice A n c, .bool b] 54)) w.heap.size l b := by
 subst hl
 exact ⟨A, c, blk_new _ _, hC, hc⟩
theorem infoJob : (Tryd.prog.info? 48).map (fun i => (i.zero, i.size, i.bytes)) = some (some (.agg #[(.string ⟨#[]⟩), (.int .i64 0), (.int .i64 0), (.int .i64 0), (.int .i64 0), (.int .i64 0), (.int .i64 0), (.bool false)]), 8, 72) := by kernel_rfl
def restJ (l : List Int) : List Int := l.take (l.length - 4)
def afterJ (l : List Int) : List S48 × List Int × Bool := jobsL (nV (restJ l)).toNat (nR (restJ l)) (nB (restJ l) false) []
def endJ (q : List S48 × List Int × Bool) : List S48 × Int := if q.2.2 = true then ([], 3) else if 0 < q.2.1.length then ([], 3) else if q.1.all goodJ = true then (q.1, 0) else ([], 3)
def readJ (l : List Int) (wb : Bool) : List S48 × Int :=
 if l.length < 4 then ([], 3) else if wb = false then ([], 3) else if nV (restJ l) > 200 then ([], 3) else endJ (afterJ l)
def JPost (W : World) (r : List S48 × Int) (e : Ending) (w' : World) : Prop := ∃ v0_ : Value, e = .returned (.tuple #[v0_, .int .i64 r.2]) ∧ Kd.R k48 48 w' W.heap.size (fun _ => True) v0_ r.1 ∧ Below W.heap.size W w'
theorem jpost_bad {W w' : World} {r : List S48 × Int} (h : r = ([], 3)) (hb : Below W.heap.size W w') : JPost W r (.returned (.tuple #[.slice none 0 0, .int .i64 3])) w' := by
 subst h
 exact ⟨_, rfl, Kd.R_nil _ _ _ _ _, hb⟩
theorem all_is (t : List S48) (ht : t.length ≤ 200) (hn : ∀ x ∈ t, x.f0.size ≤ 1000000) : job_All.f t = some (t.all goodJ) := by
 unfold job_All.f cfJob.f
 rw [if_pos (by omega), if_pos (by rw [List.all_eq_true]; intro x hx; have := hn x hx; show decide (_ ≤ PGd.lim) = true; unfold PGd.lim; exact decide_eq_true (by omega))]
 simp [List.all_eq_not_any_not]
theorem txR_mem (l : List Int) (m : Nat) (c : Int) (h : c ∈ txR l m) : c ∈ l := by
 unfold txR at h
 split at h
 ·cases h
 ·exact List.mem_of_mem_drop h
theorem txR_le (l : List Int) (m : Nat) : (txR l m).length ≤ l.length := by
 unfold txR
 split
 ·simp
 ·rw [List.length_drop]; omega
theorem txS_le (l : List Int) (m : Nat) : (txS l m).size ≤ l.length := by
 unfold txS
 split
 ·exact Nat.zero_le _
 ·rw [strOfNums_size, List.length_take]; omega
set_option maxHeartbeats 8000000
set_option maxRecDepth 100000
theorem js0 {W wr w11 : World} {R : Nat} {l : List Int} {b : Bool} (x : S48) (hRd : RdrV W w11 R l b) (hB : Below W.heap.size W w11) (hK : KeepBut wr w11 R none) (hg : W.heap.size ≤ R) :
  JS W wr ((w11.alloc (.cells (cellsJ x) 48)).alloc (.cells (ptrs w11.heap.size) 58)) R w11.heap.size (w11.heap.size + 1) l b x := by
 have hlt : R < w11.heap.size := by obtain ⟨_, _, BK, _⟩ := hRd; exact blk_lt BK
 refine ⟨RdrV_alloc (RdrV_alloc hRd _) _, below_alloc (below_alloc hB _) _, ?_, blk_alloc (blk_new _ _) _, ?_, hg, below_size hB, hK.1, by omega, by omega, by omega⟩
 ·exact keep_trans hK (KeepBut.of_below (below_alloc (below_alloc (Below.refl _ _) _) _) _ _)
 ·have := blk_new (w11.alloc (.cells (cellsJ x) 48)) (.cells (ptrs w11.heap.size) 58)
  rwa [show (w11.alloc (.cells (cellsJ x) 48)).heap.size = w11.heap.size + 1 from Array.size_push ..] at this
theorem getj_short (A : Option Addr) (c : Nat) (l : List Int) (W : World) (h : l.length < 4) :
  Calls Tryd.prog 8 #[.slice A l.length c] W (JPost W (readJ l false)) := by
 have HB := Aside0.mk (Below.refl W.heap.size W)
 have CW := Aside0.mk (whole_short A c l W h)
 have HE : Aside0 (readJ l false = ([], 3)) := ⟨if_pos h⟩
 clear h
 go_enter Tryd.func8, Tryd.ntmps8
 go_wp2_with (first | (go_at_call 21; (with_reducible refine (CW.out).mono ?_); rintro e w7 ⟨rfl, hb⟩; have n0_ := Aside0.mk (below_step (by repeat (first | (with_reducible first | exact HB.out | apply below_alloc | apply pw_below_drewN | apply below_drew1) | exact HB.out)) hb); clear HB; have HB := n0_; clear n0_ hb) | (go_at_call 22; (with_reducible refine (number_s W _ _ [] false (box_any 0 none 0 [] W _ (Kd.C_nil _ _) rfl (Nat.le_refl _) false) (below_alloc HB.out _) (below_size HB.out) (by simp)).mono ?_); rintro e w9 ⟨rfl, hRd, hB, hK⟩; have n0_ := Aside0.mk hB; clear hRd hB HB hK; have HB := n0_; clear n0_))
 go_ret2
 exact jpost_bad HE.out HB.out
theorem getj_torn (k : Nat) (A : Option Addr) (c : Nat) (l : List Int) (W : World) (hr : Kd.C (Kd.int .u8) W A l.length l) (hc : l.length ≤ c) (hl : l.length ≤ 1000000) (h : 4 ≤ l.length) (hby : ∀ x ∈ l, 0 ≤ x ∧ x < 256) (hs : wholeB k l = some false) :
  Calls Tryd.prog 8 #[.slice A l.length c] W (JPost W (readJ l false)) := by
 have HB := Aside0.mk (Below.refl W.heap.size W)
 have CW := Aside0.mk (whole_c k A c l W false hr hc (by omega) h hs)
 have HE : Aside0 (readJ l false = ([], 3)) := ⟨by unfold readJ; rw [if_neg (by omega), if_pos rfl]⟩
 have HL : (restJ l).length = l.length - 4 := by unfold restJ; rw [List.length_take]; omega
 have HT : Kd.C (Kd.int .u8) W A (l.length - 4) (restJ l) := by have h2 := Kd.C_take (m := l.length - 4) hr (by omega); rw [show (l.take (l.length - 4)).length = l.length - 4 from HL] at h2; exact h2
 have HY : ∀ x ∈ restJ l, 0 ≤ x ∧ x < 256 := fun x (hx : x ∈ l.take (l.length - 4)) => hby x (List.mem_of_mem_take hx)
 obtain ⟨m, hm⟩ : ∃ m, m = l.length - 4 := ⟨_, rfl⟩
 rw [← hm] at CW HT HL
 have NUM := Aside0.mk (fun (w : World) (hB : Below W.heap.size W w) => number_s W _ _ (restJ l) false (box_any m A c (restJ l) W w HT HL (by omega) false) (below_alloc hB _) (below_size hB) HY)
 clear hr hs h hby HT HL HY hl hm
 go_enter Tryd.func8, Tryd.ntmps8
 go_wp2_with (first | (go_at_call 21; (with_reducible refine (CW.out).mono ?_); rintro e w7 ⟨rfl, hb⟩; have n0_ := Aside0.mk (below_step (by repeat (first | (with_reducible first | exact HB.out | apply below_alloc | apply pw_below_drewN | apply below_drew1) | exact HB.out)) hb); clear HB; have HB := n0_; clear n0_ hb) | (go_at_call 22; (with_reducible refine (NUM.out _ HB.out).mono ?_); rintro e w9 ⟨rfl, hRd, hB, hK⟩; have n0_ := Aside0.mk hB; clear hRd hB HB hK; have HB := n0_; clear n0_))
 go_ret2
 exact jpost_bad HE.out HB.out
theorem getj_whole (k : Nat) (A : Option Addr) (c : Nat) (l : List Int) (W : World) (hT : Tab W) (hr : Kd.C (Kd.int .u8) W A l.length l) (hc : l.length ≤ c) (hl : l.length ≤ 1000000) (h : 4 ≤ l.length) (hby : ∀ x ∈ l, 0 ≤ x ∧ x < 256) (hs : wholeB k l = some true) :
  Calls Tryd.prog 8 #[.slice A l.length c] W (JPost W (readJ l true)) := by
 have HB := Aside0.mk (Below.refl W.heap.size W)
 have CW := Aside0.mk (whole_c k A c l W true hr hc (by omega) h hs)
 have HTb := Aside0.mk hT
 have HL : (restJ l).length = l.length - 4 := by unfold restJ; rw [List.length_take]; omega
 have HT : Kd.C (Kd.int .u8) W A (l.length - 4) (restJ l) := by have h2 := Kd.C_take (m := l.length - 4) hr (by omega); rw [show (l.take (l.length - 4)).length = l.length - 4 from HL] at h2; exact h2
 have HY : ∀ x ∈ restJ l, 0 ≤ x ∧ x < 256 := fun x (hx : x ∈ l.take (l.length - 4)) => hby x (List.mem_of_mem_take hx)
 have HE : Aside0 (readJ l true = if nV (restJ l) > 200 then ([], 3) else endJ (afterJ l)) := ⟨by unfold readJ; rw [if_neg (by omega), if_neg (by decide)]⟩
 have HA : afterJ l = jobsL (nV (restJ l)).toNat (nR (restJ l)) (nB (restJ l) false) [] := rfl
 generalize restJ l = rest at *
 generalize afterJ l = af at *
 obtain ⟨m, hm⟩ : ∃ m, m = l.length - 4 := ⟨_, rfl⟩
 rw [← hm] at CW HT HL
 have hmc : m ≤ c := by omega
 have hrl : rest.length ≤ 1000000 := by omega
 have bd := nV_bd rest HY
 have HY2 := Aside0.mk (fun x (hx : x ∈ nR rest) => HY x (nR_mem rest x hx))
 have HL2 := Aside0.mk (Nat.le_trans (nR_le rest) hrl)
 have NUM := Aside0.mk (fun (w : World) (hB : Below W.heap.size W w) => number_s W _ _ rest false (box_any m A c rest W w HT HL hmc false) (below_alloc hB _) (below_size hB) HY)
 clear hr hs h hby HT HL HY hl hm hc hrl hT
 generalize nV rest = N at *
 generalize nR rest = l0 at *
 generalize nB rest false = b0 at *
 by_cases hN : N > 200
 ·rw [if_pos hN] at HE
  have d1 : decide (N > 200) = true := decide_eq_true hN
  clear hN
  go_enter Tryd.func8, Tryd.ntmps8
  go_wp2_with (first | (go_at_call 21; (with_reducible refine (CW.out).mono ?_); rintro e w7 ⟨rfl, hb⟩; have n0_ := Aside0.mk (below_step (by repeat (first | (with_reducible first | exact HB.out | apply below_alloc | apply pw_below_drewN | apply below_drew1) | exact HB.out)) hb); clear HB; have HB := n0_; clear n0_ hb) | (go_at_call 22; (with_reducible refine (NUM.out _ HB.out).mono ?_); rintro e w9 ⟨rfl, hRd, hB, hK⟩; have n0_ := Aside0.mk hB; clear hRd hB HB hK; have HB := n0_; clear n0_))
  go_ret2
  exact jpost_bad HE.out HB.out
 rw [if_neg hN, HA] at HE
 have d1 : decide (N > 200) = false := decide_eq_false hN
 have hN2 : N ≤ 200 := by omega
 clear hN HA af
 go_enter Tryd.func8, Tryd.ntmps8
 go_wp2_with (first | (go_at_call 21; (with_reducible refine CW.out.mono ?_); rintro e w7 ⟨rfl, hb⟩; have n0_ := Aside0.mk (below_step HB.out hb); clear HB; have HB := n0_; clear n0_ hb; have hgR : W.heap.size ≤ w7.heap.size := below_size HB.out) | (go_at_call 22; (with_reducible refine (NUM.out _ HB.out).mono ?_); rintro e w9 ⟨rfl, hRd, hB, hK⟩; have HRd := Aside0.mk hRd; have n0_ := Aside0.mk hB; clear hRd hB HB hK; have HB := n0_; clear n0_))
 generalize w7.heap.size = R at HRd hgR ⊢
 go_loopg [8, 9, 11, 29] N.toNat (fun f v8 v9 v11 v29 wr => ∃ (i : Int) (l1 : List Int) (b1 : Bool) (t : List S48), v29 = .int .i64 i ∧ 0 ≤ i ∧ i + f = N ∧ Aside0 (RdrV W wr R l1 b1) ∧ Aside0 (Kd.R k48 48 wr W.heap.size (fun _ => True) v8 t) ∧ Aside0 (Below W.heap.size W wr) ∧ Aside0 (jobsL N.toNat l0 b0 [] = jobsL f l1 b1 t) ∧ Aside0 ((t.length : Int) = i) ∧ Aside0 (∀ x ∈ l1, 0 ≤ x ∧ x < 256) ∧ Aside0 (l1.length ≤ 1000000) ∧ Aside0 (∀ x ∈ t, x.f0.size ≤ 1000000))
 case atStart => exact ⟨0, l0, b0, [], rfl, by omega, by omega, HRd, ⟨Kd.R_nil _ _ _ _ _⟩, HB, ⟨rfl⟩, ⟨rfl⟩, HY2, HL2, ⟨by simp⟩⟩
 case round =>
  clear HRd HB HY2 HL2
  obtain ⟨i, l1, b1, t, rfl, hi0, hiN, HRd, HO, HB, HF, HTl, HY, HL, HS⟩ := hrel
  obtain ⟨At, ct, rfl⟩ := Kd.R_slice HO.out
  by_cases hlt : i < N
  ·obtain ⟨f, rfl⟩ : ∃ f, gk = f + 1 := ⟨gk - 1, by omega⟩
   have HRd0 := HRd
   obtain ⟨nn, hnn⟩ : ∃ nn : Nat, nV l1 = nn := ⟨(nV l1).toNat, by have := (nV_bd l1 HY.out).1; omega⟩
   have hnb : nn ≤ 2147483647 := by have := (nV_bd l1 HY.out).2; omega
   have NUM2 : Aside0 (Calls Tryd.prog 22 #[.pointer (some ⟨R, 0, none⟩)] wr fun e w' => e = .returned (.int .i64 nn) ∧ RdrV W w' R (nR l1) (nB l1 b1) ∧ Below W.heap.size W w' ∧ KeepBut wr w' R none) := ⟨by have := number_s W wr R l1 b1 HRd.out HB.out hgR HY.out; rw [hnn] at this; exact this⟩
   go_wp2_with (first | (go_at_call 22; (with_reducible refine NUM2.out.mono ?_); rintro e w10 ⟨rfl, hRd, hB, hK⟩; have n0_ := Aside0.mk hRd; have n1_ := Aside0.mk hB; have HK := Aside0.mk hK; clear hRd hB HB hK HRd; have HRd := n0_; have HB := n1_; clear n0_ n1_) | (go_at_call 24; (with_reducible refine (text_c W _ R _ _ nn HRd.out HB.out hgR (by omega)).mono ?_); rintro e w11 ⟨rfl, hRd, hB, hK⟩; have n0_ := Aside0.mk hRd; have n1_ := Aside0.mk hB; have n2_ := Aside0.mk (keep_trans HK.out hK); clear hRd hB HB hK HRd HK; have HRd := n0_; have HB := n1_; have HK := n2_; clear n0_ n1_ n2_))
   have HJ : Aside0 (JS W wr ((w11.alloc (.cells #[.string (txS (nR l1) nn), .int .i64 0, .int .i64 0, .int .i64 0, .int .i64 0, .int .i64 0, .int .i64 0, .bool false] 48)).alloc (.cells #[.pointer (some ⟨w11.heap.size, 1, none⟩), .pointer (some ⟨w11.heap.size, 2, none⟩), .pointer (some ⟨w11.heap.size, 3, none⟩), .pointer (some ⟨w11.heap.size, 4, none⟩), .pointer (some ⟨w11.heap.size, 5, none⟩), .pointer (some ⟨w11.heap.size, 6, none⟩)] 58)) R w11.heap.size (w11.heap.size + 1) (txR (nR l1) nn) (txB (nR l1) (nB l1 b1) nn) (nameJ l1)) := ⟨by
    have h1 := js0 (nameJ l1) HRd.out HB.out HK.out hgR
    have e1 : cellsJ (nameJ l1) = #[.string (txS (nR l1) nn), .int .i64 0, .int .i64 0, .int .i64 0, .int .i64 0, .int .i64 0, .int .i64 0, .bool false] := by unfold nameJ; rw [hnn]; rfl
    rw [e1] at h1
    exact h1⟩
   have HST : Aside0 (jobsL (f + 1) l1 b1 t = jobsL f (rdJob l1 b1).2.1 (rdJob l1 b1).2.2 (t ++ [(rdJob l1 b1).1])) := ⟨rfl⟩
   have HRJ : Aside0 (rdJob l1 b1 = ({ (sixJ 6 0 (nameJ l1) (txR (nR l1) nn) (txB (nR l1) (nB l1 b1) nn)).1 with f7 := trV (sixJ 6 0 (nameJ l1) (txR (nR l1) nn) (txB (nR l1) (nB l1 b1) nn)).2.1 }, (sixJ 6 0 (nameJ l1) (txR (nR l1) nn) (txB (nR l1) (nB l1 b1) nn)).2.1.tail, trB (sixJ 6 0 (nameJ l1) (txR (nR l1) nn) (txB (nR l1) (nB l1 b1) nn)).2.2 (sixJ 6 0 (nameJ l1) (txR (nR l1) nn) (txB (nR l1) (nB l1 b1) nn)).2.1)) := ⟨by unfold rdJob; rw [hnn]; rfl⟩
   have HYa := Aside0.mk (show ∀ x ∈ txR (nR l1) nn, 0 ≤ x ∧ x < 256 from fun x hx => HY.out x (nR_mem l1 x (txR_mem _ _ x hx)))
   have HLa := Aside0.mk (show (txR (nR l1) nn).length ≤ 1000000 from Nat.le_trans (Nat.le_trans (txR_le _ _) (nR_le l1)) HL.out)
   have HSa := Aside0.mk (show (nameJ l1).f0.size ≤ 1000000 from Nat.le_trans (txS_le _ _) (Nat.le_trans (nR_le l1) HL.out))
   obtain ⟨wq, hwq⟩ : ∃ wq, wq = wr := ⟨_, rfl⟩
   subst hwq
   have HOq := HO
   have HRq := HRd0
   clear HO HB HRd HK HY HL NUM2 HRd0
   generalize txR (nR l1) nn = la at HJ HRJ HYa HLa
   generalize txB (nR l1) (nB l1 b1) nn = ba at HJ HRJ
   generalize nameJ l1 = xa at HJ HRJ HSa
   generalize (w11.alloc _).alloc _ = w12 at HJ ⊢
   generalize w11.heap.size = J at HJ ⊢
   go_loopg [11, 44] 6 (fun g v11 v44 wr => ∃ (k : Int) (x : S48) (l2 : List Int) (b2 : Bool), v44 = .int .i64 k ∧ 0 ≤ k ∧ k + g = 6 ∧ Aside0 (JS W wq wr R J (J + 1) l2 b2 x) ∧ Aside0 (sixJ 6 0 xa la ba = sixJ g k.toNat x l2 b2) ∧ Aside0 (∀ c ∈ l2, 0 ≤ c ∧ c < 256) ∧ Aside0 (l2.length ≤ 1000000) ∧ Aside0 (x.f0.size ≤ 1000000))
   case atStart => exact ⟨0, xa, la, ba, rfl, by omega, by omega, HJ, ⟨rfl⟩, HYa, HLa, HSa⟩
   case round =>
    clear HJ HYa HLa HSa
    obtain ⟨k, x, l2, b2, rfl, hk0, hk6, HJ, HX, HY, HL, HSx⟩ := hrel
    obtain ⟨rfl, rfl⟩ | ⟨rfl, rfl⟩ | ⟨rfl, rfl⟩ | ⟨rfl, rfl⟩ | ⟨rfl, rfl⟩ | ⟨rfl, rfl⟩ | ⟨rfl, rfl⟩ : (k = 0 ∧ gk = 6) ∨ (k = 1 ∧ gk = 5) ∨ (k = 2 ∧ gk = 4) ∨ (k = 3 ∧ gk = 3) ∨ (k = 4 ∧ gk = 2) ∨ (k = 5 ∧ gk = 1) ∨ (k = 6 ∧ gk = 0) := by omega
    ·have hcp : wr.cell? ⟨J + 1, 0, none⟩ = some (.pointer (some ⟨J, 1, none⟩)) := (blk_cell HJ.out.pb 0).trans rfl
     clear hk0 hk6
     go_wp2_with (first | (go_at_call 22; (with_reducible refine (HJ.out.num HY.out).mono ?_); rintro e w13 ⟨rfl, hJ⟩; have hfz := blk_frozen hJ.jb 1; have hcz : w13.cell? ⟨J, 1, none⟩ = some (.int .i64 x.f1) := (blk_cell hJ.jb 1).trans rfl; have n0_ := Aside0.mk hJ; clear HJ hJ; have HJ := n0_; clear n0_))
     go_roundg 5
     case measure => omega
     case rel => exact ⟨1, setF x 0 (nV l2), nR l2, nB l2 b2, by go_num, by omega, by omega, ⟨HJ.out.set 1 _ _ (by decide) rfl⟩, ⟨HX.out⟩, ⟨fun c hc => HY.out c (nR_mem l2 c hc)⟩, ⟨Nat.le_trans (nR_le l2) HL.out⟩, ⟨HSx.out⟩⟩
    ·have hcp : wr.cell? ⟨J + 1, 1, none⟩ = some (.pointer (some ⟨J, 2, none⟩)) := (blk_cell HJ.out.pb 1).trans rfl
     clear hk0 hk6
     go_wp2_with (first | (go_at_call 22; (with_reducible refine (HJ.out.num HY.out).mono ?_); rintro e w13 ⟨rfl, hJ⟩; have hfz := blk_frozen hJ.jb 2; have hcz : w13.cell? ⟨J, 2, none⟩ = some (.int .i64 x.f2) := (blk_cell hJ.jb 2).trans rfl; have n0_ := Aside0.mk hJ; clear HJ hJ; have HJ := n0_; clear n0_))
     go_roundg 4
     case measure => omega
     case rel => exact ⟨2, setF x 1 (nV l2), nR l2, nB l2 b2, by go_num, by omega, by omega, ⟨HJ.out.set 2 _ _ (by decide) rfl⟩, ⟨HX.out⟩, ⟨fun c hc => HY.out c (nR_mem l2 c hc)⟩, ⟨Nat.le_trans (nR_le l2) HL.out⟩, ⟨HSx.out⟩⟩
    ·have hcp : wr.cell? ⟨J + 1, 2, none⟩ = some (.pointer (some ⟨J, 3, none⟩)) := (blk_cell HJ.out.pb 2).trans rfl
     clear hk0 hk6
     go_wp2_with (first | (go_at_call 22; (with_reducible refine (HJ.out.num HY.out).mono ?_); rintro e w13 ⟨rfl, hJ⟩; have hfz := blk_frozen hJ.jb 3; have hcz : w13.cell? ⟨J, 3, none⟩ = some (.int .i64 x.f3) := (blk_cell hJ.jb 3).trans rfl; have n0_ := Aside0.mk hJ; clear HJ hJ; have HJ := n0_; clear n0_))
     go_roundg 3
     case measure => omega
     case rel => exact ⟨3, setF x 2 (nV l2), nR l2, nB l2 b2, by go_num, by omega, by omega, ⟨HJ.out.set 3 _ _ (by decide) rfl⟩, ⟨HX.out⟩, ⟨fun c hc => HY.out c (nR_mem l2 c hc)⟩, ⟨Nat.le_trans (nR_le l2) HL.out⟩, ⟨HSx.out⟩⟩
    ·have hcp : wr.cell? ⟨J + 1, 3, none⟩ = some (.pointer (some ⟨J, 4, none⟩)) := (blk_cell HJ.out.pb 3).trans rfl
     clear hk0 hk6
     go_wp2_with (first | (go_at_call 22; (with_reducible refine (HJ.out.num HY.out).mono ?_); rintro e w13 ⟨rfl, hJ⟩; have hfz := blk_frozen hJ.jb 4; have hcz : w13.cell? ⟨J, 4, none⟩ = some (.int .i64 x.f4) := (blk_cell hJ.jb 4).trans rfl; have n0_ := Aside0.mk hJ; clear HJ hJ; have HJ := n0_; clear n0_))
     go_roundg 2
     case measure => omega
     case rel => exact ⟨4, setF x 3 (nV l2), nR l2, nB l2 b2, by go_num, by omega, by omega, ⟨HJ.out.set 4 _ _ (by decide) rfl⟩, ⟨HX.out⟩, ⟨fun c hc => HY.out c (nR_mem l2 c hc)⟩, ⟨Nat.le_trans (nR_le l2) HL.out⟩, ⟨HSx.out⟩⟩
    ·have hcp : wr.cell? ⟨J + 1, 4, none⟩ = some (.pointer (some ⟨J, 5, none⟩)) := (blk_cell HJ.out.pb 4).trans rfl
     clear hk0 hk6
     go_wp2_with (first | (go_at_call 22; (with_reducible refine (HJ.out.num HY.out).mono ?_); rintro e w13 ⟨rfl, hJ⟩; have hfz := blk_frozen hJ.jb 5; have hcz : w13.cell? ⟨J, 5, none⟩ = some (.int .i64 x.f5) := (blk_cell hJ.jb 5).trans rfl; have n0_ := Aside0.mk hJ; clear HJ hJ; have HJ := n0_; clear n0_))
     go_roundg 1
     case measure => omega
     case rel => exact ⟨5, setF x 4 (nV l2), nR l2, nB l2 b2, by go_num, by omega, by omega, ⟨HJ.out.set 5 _ _ (by decide) rfl⟩, ⟨HX.out⟩, ⟨fun c hc => HY.out c (nR_mem l2 c hc)⟩, ⟨Nat.le_trans (nR_le l2) HL.out⟩, ⟨HSx.out⟩⟩
    ·have hcp : wr.cell? ⟨J + 1, 5, none⟩ = some (.pointer (some ⟨J, 6, none⟩)) := (blk_cell HJ.out.pb 5).trans rfl
     clear hk0 hk6
     go_wp2_with (first | (go_at_call 22; (with_reducible refine (HJ.out.num HY.out).mono ?_); rintro e w13 ⟨rfl, hJ⟩; have hfz := blk_frozen hJ.jb 6; have hcz : w13.cell? ⟨J, 6, none⟩ = some (.int .i64 x.f6) := (blk_cell hJ.jb 6).trans rfl; have n0_ := Aside0.mk hJ; clear HJ hJ; have HJ := n0_; clear n0_))
     go_roundg 0
     case measure => omega
     case rel => exact ⟨6, setF x 5 (nV l2), nR l2, nB l2 b2, by go_num, by omega, by omega, ⟨HJ.out.set 6 _ _ (by decide) rfl⟩, ⟨HX.out⟩, ⟨fun c hc => HY.out c (nR_mem l2 c hc)⟩, ⟨Nat.le_trans (nR_le l2) HL.out⟩, ⟨HSx.out⟩⟩
    ·clear hk0 hk6
     have HNe := Aside0.mk (show some R ≠ (Value.slice At t.length ct).ownBlock from by obtain ⟨_, _, BK, _⟩ := HRq.out; exact Kd.R_ne HOq.out BK (by decide))
     have HXf : Aside0 (rdJob l1 b1 = ({ x with f7 := trV l2 }, l2.tail, trB b2 l2)) := ⟨by rw [HRJ.out, HX.out]; rfl⟩
     clear HRJ HX
     go_wp2_with (first | (go_at_call 25; (with_reducible refine (HJ.out.truth HY.out).mono ?_); rintro e w14 ⟨rfl, hJ⟩; have hfz := blk_frozen hJ.jb 7; have hcz0 : w14.cell? ⟨J, 0, none⟩ = some (.string x.f0) := (blk_cell hJ.jb 0).trans rfl; have hcz1 : w14.cell? ⟨J, 1, none⟩ = some (.int .i64 x.f1) := (blk_cell hJ.jb 1).trans rfl; have hcz2 : w14.cell? ⟨J, 2, none⟩ = some (.int .i64 x.f2) := (blk_cell hJ.jb 2).trans rfl; have hcz3 : w14.cell? ⟨J, 3, none⟩ = some (.int .i64 x.f3) := (blk_cell hJ.jb 3).trans rfl; have hcz4 : w14.cell? ⟨J, 4, none⟩ = some (.int .i64 x.f4) := (blk_cell hJ.jb 4).trans rfl; have hcz5 : w14.cell? ⟨J, 5, none⟩ = some (.int .i64 x.f5) := (blk_cell hJ.jb 5).trans rfl; have hcz6 : w14.cell? ⟨J, 6, none⟩ = some (.int .i64 x.f6) := (blk_cell hJ.jb 6).trans rfl; have hcz7 : w14.cell? ⟨J, 7, none⟩ = some (.bool x.f7) := (blk_cell hJ.jb 7).trans rfl; have HJ7 := Aside0.mk (hJ.set 7 (.bool (trV l2)) ({ x with f7 := trV l2 } : S48) (by decide) rfl); have HO7 : Aside0 (Kd.R k48 48 (w14.setCell ⟨J, 7, none⟩ (.bool (trV l2))) W.heap.size (fun _ => True) (.slice At t.length ct) t) := ⟨by obtain ⟨_, _, BK, _⟩ := HRq.out; exact Kd.R_mono (Kd.R_keep (Kd.R_types HOq.out BK (by decide)) HJ7.out.kp (fun _ hk => hk.2)) (fun _ _ => trivial)⟩; clear HJ hJ) | ((with_reducible refine gate_builtin (b := .append) (xs := #[.tmp 56, .tmp 58]) rfl ?_); at_builtin; refine Kd.R_append k48 (w0 := W) W.heap.size rfl (.tmp 56) (.tmp 58) 28 48 (.agg #[(.string ⟨#[]⟩), (.int .i64 0), (.int .i64 0), (.int .i64 0), (.int .i64 0), (.int .i64 0), (.int .i64 0), (.bool false)]) 72 rfl Tryd.underlying28 infoJob rfl (by decide) (by omega) (.slice At t.length ct) t ({ x with f7 := trV l2 } : S48) [.string x.f0, .int .i64 x.f1, .int .i64 x.f2, .int .i64 x.f3, .int .i64 x.f4, .int .i64 x.f5, .int .i64 x.f6, .bool (trV l2)] (fun _ => True) (fun _ => False) rfl (by first | (go_simp; done) | (go_simp; rfl)) ?aP (fun _ hk => hk.elim) ?aF ?aO ?aB ?aS ?aL ?_; (case aP => exact k48_mkM _ _ _ ({ x with f7 := trV l2 } : S48)); (case aF => exact (fun _ _ => trivial)); (case aO => exact HO7.out); (case aB => exact HJ7.out.bl); (case aS => exact below_size HJ7.out.bl); (case aL => have := HTl.out; omega); intro v1 w1 ho hb hg hat; have HO2 := Aside0.mk ho; have HB2 := Aside0.mk hb; have HRd3 := Aside0.mk (RdrV_grown (v := .slice none 0 0) (t := []) HJ7.out.rd hg HNe.out); clear ho hb hg hat))
     go_roundg f
     case measure => omega
     case rel => exact ⟨i + 1, l2.tail, trB b2 l2, t ++ [{ x with f7 := trV l2 }], by go_num, by omega, by omega, HRd3, HO2, HB2, ⟨by rw [HF.out, HST.out, HXf.out]⟩, ⟨by have := HTl.out; rw [List.length_append]; simp only [List.length_cons, List.length_nil]; omega⟩, ⟨fun c hc => HY.out c (List.mem_of_mem_tail hc)⟩, ⟨by have := HL.out; rw [List.length_tail]; omega⟩, ⟨fun y hy => by
      rcases List.mem_append.1 hy with h | h
      ·exact HS.out y h
      ·obtain rfl := List.mem_singleton.1 h
       exact HSx.out⟩⟩
  ·have hgk : gk = 0 := by omega
   subst hgk
   have HF2 : Aside0 (readJ l true = endJ (t, l1, b1)) := ⟨by rw [HE.out, HF.out]; rfl⟩
   obtain ⟨A1, c1, BK, hC1, hc1⟩ := HRd.out
   have hcell0 : wr.cell? ⟨R, 0, none⟩ = some (.slice A1 l1.length c1) := (blk_cell BK 0).trans rfl
   have hcell1 : wr.cell? ⟨R, 1, none⟩ = some (.bool b1) := (blk_cell BK 1).trans rfl
   clear BK hC1 hc1
   cases b1 with
   | true =>
    go_wp2
    go_ret2
    exact jpost_bad (by rw [HF2.out]; rfl) HB.out
   | false =>
    by_cases h0 : 0 < l1.length
    ·have e1 : decide (0 < l1.length) = true := decide_eq_true h0
     have e2 : decide ((l1.length : Int) > 0) = true := decide_eq_true (by omega)
     have HF3 : Aside0 (readJ l true = ([], 3)) := ⟨by rw [HF2.out]; unfold endJ; rw [if_neg (show ¬ (false = true) by decide), if_pos h0]⟩
     clear h0
     go_wp2
     go_ret2
     exact jpost_bad HF3.out HB.out
    ·have e1 : decide (0 < l1.length) = false := decide_eq_false h0
     have e2 : decide ((l1.length : Int) > 0) = false := decide_eq_false (by omega)
     have HF3 : Aside0 (readJ l true = if t.all goodJ = true then (t, 0) else ([], 3)) := ⟨by rw [HF2.out]; unfold endJ; rw [if_neg (show ¬ (false = true) by decide), if_neg h0]⟩
     clear h0
     have CA := Aside0.mk (job_All.calls At ct t (t.all goodJ) wr (tab_below HTb.out HB.out) (Kd.R_reads' HO.out).2.2 (Kd.R_reads' HO.out).2.1 (all_is t (by have := HTl.out; omega) HS.out))
     cases hg : t.all goodJ
     ·rw [hg] at CA HF3
      clear hg
      go_wp2_with (first | (go_at_call 20; (with_reducible refine (CA.out).mono ?_); rintro e w7 ⟨rfl, hb⟩; have n0_ := Aside0.mk (below_step (by repeat (first | (with_reducible first | exact HB.out | apply below_alloc | apply pw_below_drewN | apply below_drew1) | exact HB.out)) hb); clear HB; have HB := n0_; clear n0_ hb))
      go_ret2
      exact jpost_bad HF3.out HB.out
     ·rw [hg] at CA HF3
      clear hg
      go_wp2_with (first | (go_at_call 20; (with_reducible refine CA.out.mono ?_); rintro e w7 ⟨rfl, hb⟩; have n0_ := Aside0.mk (below_step HB.out hb); have n1_ := Aside0.mk (Kd.R_below HO.out hb); clear HB HO; have HB := n0_; have HO := n1_; clear n0_ n1_ hb))
      go_ret2
      refine ⟨_, by rw [HF3.out]; rfl, ?_, HB.out⟩
      rw [HF3.out]
      exact HO.out

end Go.Proofs.YtpgfecaomdioeaaDoor.PCt
