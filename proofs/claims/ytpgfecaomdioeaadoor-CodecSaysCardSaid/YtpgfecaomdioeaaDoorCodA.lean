/- functions and contracts as the kit's print.py writes them, the roots chosen in this session (wip/proots.sh) The contract of codec's reader of numbers. Contracts of bytes.Clone and of codec's whole. The contract of codec's GetTrace. What codec's PutTrace and GetTrace compute, in plain numbers (law26). -/
-- slim
import Derived.Test.YtpgfecaomdioeaaDoorPCtx0
import Derived.Deep.RegionHeld3
import Derived.Test.YtpgfecaomdioeaaDoorPCtx2
import Derived.Lib.SliceRun
import Derived.Test.YtpgfecaomdioeaaDoorPCtInts
import Derived.Lib.SlBytesConst
import Derived.Lib.Strings
namespace Go.Proofs.YtpgfecaomdioeaaDoor.PCt
open Go.RowKit Go.Proofs.YtpgfecaomdioeaaDoorW.PrintWords Go.Proofs.YtpgfecaomdioeaaDoorW.PrintLast Go.Proofs.YtpgfecaomdioeaaDoorW.PrintMore
attribute [local go_sem] max2_int min2_int max_two min_two max_three min_three max_four min_four   -- for this text's walks alone
set_option linter.unusedVariables false
set_option linter.unusedSimpArgs false

/-! ### bytes_Equal: function 23 -/
def bytes_Equal.f (l0 : List Int) (l1 : List Int) : Option (Bool) := some ((strOfNums l0).toList == (strOfNums l1).toList)
set_option maxHeartbeats 8000000 in
set_option maxRecDepth 100000 in
theorem bytes_Equal.calls (A0 : Option Addr) (c0 : Nat) (l0 : List Int) (A1 : Option Addr) (c1 : Nat) (l1 : List Int) (r : Bool) (w : World) (hr0 : Kd.C (Kd.int .u8) w A0 l0.length l0) (hc0 : l0.length ≤ c0) (hr1 : Kd.C (Kd.int .u8) w A1 l1.length l1) (hc1 : l1.length ≤ c1) (h : bytes_Equal.f l0 l1 = some r) :
  Calls Tryd.prog 23 #[.slice A0 l0.length c0, .slice A1 l1.length c1] w fun e w' => e = .returned (.bool r) ∧ Drawn0 w w' := by
 have HR0 := Aside0.mk hr0
 have HC0 := Aside0.mk hc0
 clear hr0 hc0
 have HR1 := Aside0.mk hr1
 have HC1 := Aside0.mk hc1
 clear hr1 hc1
 have H : (some ((strOfNums l0).toList == (strOfNums l1).toList)) = some r := h
 clear h
 obtain rfl := Option.some.inj H
 have hcv3 := Kd.C_string (P := Tryd.prog) (A := A0) (c := c0) Tryd.underlying27 Tryd.underlying5 Tryd.underlying9 HR0.out
 have hcv4 := Kd.C_string (P := Tryd.prog) (A := A1) (c := c1) Tryd.underlying27 Tryd.underlying5 Tryd.underlying9 HR1.out
 go_enter Tryd.func23, Tryd.ntmps23
 go_wp2
 go_ret
 exact ⟨by first | rfl | (simp; done) | (simp [*]; done), by repeat (first | exact Drawn0.refl _ | apply Drawn0.step)⟩

/-- THE ONE PURE STATEMENT of bytes_Equal: yours. -/
def bytes_Equal.Pure : Prop := ∀ (l0 : List Int) (l1 : List Int), l0.length ≤ maxLen → l0.length * 1 ≤ 140737488351232 → (∀ x ∈ l0, (Lit.int .u8 x).wf = true) → l1.length ≤ maxLen → l1.length * 1 ≤ 140737488351232 → (∀ x ∈ l1, (Lit.int .u8 x).wf = true) → bytes_Equal.f l0 l1 = some true
theorem bytes_Equal.walk (P : bytes_Equal.Pure) (a0 : Option Addr) (len0 cap0 : Nat) (z0 : List Int) (a1 : Option Addr) (len1 cap1 : Nat) (z1 : List Int) (w : World) (w0 : (a0 = none ∧ len0 = 0 ∧ cap0 = 0 ∧ z0 = []) ∨ ∃ x, a0 = some x ∧ len0 ≤ cap0 ∧ cap0 ≤ maxLen ∧ z0.length = cap0 ∧ (∀ i, i < z0.length → w.cell? (x.add i) = some (.int .u8 (z0.getD i 0))) ∧ ∀ n ∈ z0, (Lit.int .u8 n).wf = true) (y0 : len0 * 1 ≤ 140737488351232) (w1 : (a1 = none ∧ len1 = 0 ∧ cap1 = 0 ∧ z1 = []) ∨ ∃ x, a1 = some x ∧ len1 ≤ cap1 ∧ cap1 ≤ maxLen ∧ z1.length = cap1 ∧ (∀ i, i < z1.length → w.cell? (x.add i) = some (.int .u8 (z1.getD i 0))) ∧ ∀ n ∈ z1, (Lit.int .u8 n).wf = true) (y1 : len1 * 1 ≤ 140737488351232) :
  Calls Tryd.prog 23 #[.slice a0 len0 cap0, .slice a1 len1 cap1] w fun e w' => e = .returned (.bool true) ∧ Below w.heap.size w w' := by
 obtain ⟨l0, rfl, hr0, hm0, hw0, hc0⟩ := ReadsInt.ofRowC w0
 obtain ⟨l1, rfl, hr1, hm1, hw1, hc1⟩ := ReadsInt.ofRowC w1
 have h := P l0 l1 hm0 y0 hw0 hm1 y1 hw1
 refine (bytes_Equal.calls _ _ l0 _ _ l1 true w (Kd.C_of_reads (d := (0 : Int)) (h1 := fun _ => rfl) hr0) hc0 (Kd.C_of_reads (d := (0 : Int)) (h1 := fun _ => rfl) hr1) hc1 h).mono ?_
 rintro e w' ⟨rfl, hd⟩
 exact ⟨rfl, hd.below⟩





/-- A state of type 48 at block g of W; what its slices lead to came in by w0. -/
def IsS48 (w0 W : World) (g : Nat) (f0 : ByteArray) (f1 : Int) (f2 : Int) (f3 : Int) (f4 : Int) (f5 : Int) (f6 : Int) (f7 : Bool) : Prop := W.heap[g]? = some (.cells #[.string f0, .int .i64 f1, .int .i64 f2, .int .i64 f3, .int .i64 f4, .int .i64 f5, .int .i64 f6, .bool f7] 48 (0, 0)) ∧ w0.heap.size ≤ g
theorem IsS48.grown {w0 W : World} {g : Nat} {f0 : ByteArray} {f1 : Int} {f2 : Int} {f3 : Int} {f4 : Int} {f5 : Int} {f6 : Int} {f7 : Bool} {W1 : World} {row : Option Nat} (h : IsS48 w0 W g f0 f1 f2 f3 f4 f5 f6 f7) (hw : W.grownBy W1 row) (hne : some g ≠ row) : IsS48 w0 W1 g f0 f1 f2 f3 f4 f5 f6 f7 := by
 obtain ⟨hb, hg⟩ := h
 exact ⟨blk_grown hb hw hne, hg⟩
theorem IsS48.own_neN {w0 W : World} {g : Nat} {f0 : ByteArray} {f1 : Int} {f2 : Int} {f3 : Int} {f4 : Int} {f5 : Int} {f6 : Int} {f7 : Bool} {α : Type} {d : Kd α} {e : Nat} {base : Nat} {ok : Nat → Prop} {v : Value} {xs : List α} (h : IsS48 w0 W g f0 f1 f2 f3 f4 f5 f6 f7) (ho : Kd.N d e W base ok v xs) (ht : e ≠ 48) : some g ≠ v.ownBlock := by
 obtain ⟨hb, hg⟩ := h
 exact Kd.N_ne ho hb ht
theorem IsS48.fresh {w0 W : World} {g : Nat} {f0 : ByteArray} {f1 : Int} {f2 : Int} {f3 : Int} {f4 : Int} {f5 : Int} {f6 : Int} {f7 : Bool} (h : IsS48 w0 W g f0 f1 f2 f3 f4 f5 f6 f7) : ∀ k, W.heap.size ≤ k → k ≠ g := by
 obtain ⟨hb, hg⟩ := h
 exact Kd.freshB hb
theorem IsS48.kept {w0 W : World} {g : Nat} {f0 : ByteArray} {f1 : Int} {f2 : Int} {f3 : Int} {f4 : Int} {f5 : Int} {f6 : Int} {f7 : Bool} {W1 : World} {S : Nat → Prop} (h : IsS48 w0 W g f0 f1 f2 f3 f4 f5 f6 f7) (hk : Kept W W1 S) (hne : ¬ S g) : IsS48 w0 W1 g f0 f1 f2 f3 f4 f5 f6 f7 := by
 obtain ⟨hb, hg⟩ := h
 exact ⟨blk_kept hb hk hne, hg⟩
theorem IsS48.below {w0 W : World} {g : Nat} {f0 : ByteArray} {f1 : Int} {f2 : Int} {f3 : Int} {f4 : Int} {f5 : Int} {f6 : Int} {f7 : Bool} {W1 : World} (h : IsS48 w0 W g f0 f1 f2 f3 f4 f5 f6 f7) (hw : Below W.heap.size W W1) : IsS48 w0 W1 g f0 f1 f2 f3 f4 f5 f6 f7 := h.grown (grown_of_below hw none) (by simp)
theorem IsS48.alloc {w0 W : World} {g : Nat} {f0 : ByteArray} {f1 : Int} {f2 : Int} {f3 : Int} {f4 : Int} {f5 : Int} {f6 : Int} {f7 : Bool} (h : IsS48 w0 W g f0 f1 f2 f3 f4 f5 f6 f7) (o : Obj) : IsS48 w0 (W.alloc o) g f0 f1 f2 f3 f4 f5 f6 f7 := h.below (below_alloc (Below.refl _ _) o)
theorem IsS48.drewN {w0 W : World} {g : Nat} {f0 : ByteArray} {f1 : Int} {f2 : Int} {f3 : Int} {f4 : Int} {f5 : Int} {f6 : Int} {f7 : Bool} (h : IsS48 w0 W g f0 f1 f2 f3 f4 f5 f6 f7) (m : Nat) : IsS48 w0 (W.drewN m) g f0 f1 f2 f3 f4 f5 f6 f7 := h
theorem IsS48.drew {w0 W : World} {g : Nat} {f0 : ByteArray} {f1 : Int} {f2 : Int} {f3 : Int} {f4 : Int} {f5 : Int} {f6 : Int} {f7 : Bool} (h : IsS48 w0 W g f0 f1 f2 f3 f4 f5 f6 f7) : IsS48 w0 W.drew g f0 f1 f2 f3 f4 f5 f6 f7 := h
theorem IsS48.at_ {w0 W : World} {g : Nat} {f0 : ByteArray} {f1 : Int} {f2 : Int} {f3 : Int} {f4 : Int} {f5 : Int} {f6 : Int} {f7 : Bool} {w' : World} {m : Nat} (hq : W.drewN m = w') (h : IsS48 w0 W g f0 f1 f2 f3 f4 f5 f6 f7) : IsS48 w0 w' g f0 f1 f2 f3 f4 f5 f6 f7 := by subst hq; exact IsS48.drewN h m
theorem IsS48.apart {w0 W : World} {g : Nat} {f0 : ByteArray} {f1 : Int} {f2 : Int} {f3 : Int} {f4 : Int} {f5 : Int} {f6 : Int} {f7 : Bool} {α : Type} {d : Kd α} {e : Nat} {base : Nat} {ok : Nat → Prop} {v : Value} {xs : List α} (h : IsS48 w0 W g f0 f1 f2 f3 f4 f5 f6 f7) (ho : d.R e W base ok v xs) (ht : ∀ q, q ∈ e :: d.E → q ≠ 48) : d.R e W base (fun k => ok k ∧ k ≠ g) v xs := by
 obtain ⟨hb, hg⟩ := h
 exact Kd.R_types ho hb ht
theorem IsS48.own_ne {w0 W : World} {g : Nat} {f0 : ByteArray} {f1 : Int} {f2 : Int} {f3 : Int} {f4 : Int} {f5 : Int} {f6 : Int} {f7 : Bool} {α : Type} {d : Kd α} {e : Nat} {base : Nat} {ok : Nat → Prop} {v : Value} {xs : List α} (h : IsS48 w0 W g f0 f1 f2 f3 f4 f5 f6 f7) (ho : d.R e W base ok v xs) (ht : e ≠ 48) : some g ≠ v.ownBlock := by
 obtain ⟨hb, hg⟩ := h
 exact Kd.R_ne ho hb ht
theorem IsS48.apartQ {w0 W : World} {g : Nat} {f0 : ByteArray} {f1 : Int} {f2 : Int} {f3 : Int} {f4 : Int} {f5 : Int} {f6 : Int} {f7 : Bool} {α : Type} {d : Kd α} {e : Nat} {base : Nat} {ok : Nat → Prop} {v : Value} {xs : List α} (h : IsS48 w0 W g f0 f1 f2 f3 f4 f5 f6 f7) (ho : d.Q e W base ok v xs) (ht : ∀ q, q ∈ e :: d.E → q ≠ 48) : d.Q e W base (fun k => ok k ∧ k ≠ g) v xs := by
 obtain ⟨hb, hg⟩ := h
 exact Kd.Q_types ho hb ht
theorem IsS48.own_neQ {w0 W : World} {g : Nat} {f0 : ByteArray} {f1 : Int} {f2 : Int} {f3 : Int} {f4 : Int} {f5 : Int} {f6 : Int} {f7 : Bool} {α : Type} {d : Kd α} {e : Nat} {base : Nat} {ok : Nat → Prop} {v : Value} {xs : List α} (h : IsS48 w0 W g f0 f1 f2 f3 f4 f5 f6 f7) (ho : d.Q e W base ok v xs) (ht : e ≠ 48) : some g ≠ v.ownBlock := by
 obtain ⟨hb, hg⟩ := h
 exact Kd.Q_ne ho hb ht
theorem IsS48.apartS {w0 W : World} {g : Nat} {f0 : ByteArray} {f1 : Int} {f2 : Int} {f3 : Int} {f4 : Int} {f5 : Int} {f6 : Int} {f7 : Bool} {α : Type} {d : Kd α} {e : Nat} {base : Nat} {ok : Nat → Prop} {v : Value} {xs : List α} (h : IsS48 w0 W g f0 f1 f2 f3 f4 f5 f6 f7) (ho : d.S e W base ok v xs) (ht : ∀ q, q ∈ e :: d.E → q ≠ 48) : d.S e W base (fun k => ok k ∧ k ≠ g) v xs := by
 obtain ⟨hb, hg⟩ := h
 exact Kd.S_types ho hb ht
theorem IsS48.own_neS {w0 W : World} {g : Nat} {f0 : ByteArray} {f1 : Int} {f2 : Int} {f3 : Int} {f4 : Int} {f5 : Int} {f6 : Int} {f7 : Bool} {α : Type} {d : Kd α} {e : Nat} {base : Nat} {ok : Nat → Prop} {v : Value} {xs : List α} (h : IsS48 w0 W g f0 f1 f2 f3 f4 f5 f6 f7) (ho : d.S e W base ok v xs) (ht : e ≠ 48) : some g ≠ v.ownBlock := by
 obtain ⟨hb, hg⟩ := h
 exact Kd.S_ne ho hb ht
theorem IsS48.lt {w0 W : World} {g : Nat} {f0 : ByteArray} {f1 : Int} {f2 : Int} {f3 : Int} {f4 : Int} {f5 : Int} {f6 : Int} {f7 : Bool} (h : IsS48 w0 W g f0 f1 f2 f3 f4 f5 f6 f7) : g < W.heap.size := by
 obtain ⟨hb, hg⟩ := h
 exact blk_lt hb
theorem IsS48.ge {w0 W : World} {g : Nat} {f0 : ByteArray} {f1 : Int} {f2 : Int} {f3 : Int} {f4 : Int} {f5 : Int} {f6 : Int} {f7 : Bool} (h : IsS48 w0 W g f0 f1 f2 f3 f4 f5 f6 f7) : w0.heap.size ≤ g := by
 obtain ⟨hb, hg⟩ := h
 exact hg
theorem IsS48.ne_blk {w0 W : World} {g : Nat} {f0 : ByteArray} {f1 : Int} {f2 : Int} {f3 : Int} {f4 : Int} {f5 : Int} {f6 : Int} {f7 : Bool} {a : Nat} {cs : Array Value} {t : TypeId} {fr : Nat × Nat} (h : IsS48 w0 W g f0 f1 f2 f3 f4 f5 f6 f7) (hb2 : W.heap[a]? = some (.cells cs t fr)) (ht : t ≠ 48) : g ≠ a := by
 obtain ⟨hb, hg⟩ := h
 rintro rfl
 rw [hb] at hb2
 injection hb2 with hb2
 injection hb2 with _ ht2
 exact ht ht2.symm
theorem IsS48.far {w0 W : World} {g : Nat} {f0 : ByteArray} {f1 : Int} {f2 : Int} {f3 : Int} {f4 : Int} {f5 : Int} {f6 : Int} {f7 : Bool} {p : Addr} (h : IsS48 w0 W g f0 f1 f2 f3 f4 f5 f6 f7) (hne : g ≠ p.block) (u : Value) : IsS48 w0 (W.setCell p u) g f0 f1 f2 f3 f4 f5 f6 f7 := by
 obtain ⟨hb, hg⟩ := h
 exact ⟨blk_far hb hne u, hg⟩
theorem cellS48_0 {W : World} {g : Nat} {f0 : ByteArray} {f1 : Int} {f2 : Int} {f3 : Int} {f4 : Int} {f5 : Int} {f6 : Int} {f7 : Bool} (h : W.heap[g]? = some (.cells #[.string f0, .int .i64 f1, .int .i64 f2, .int .i64 f3, .int .i64 f4, .int .i64 f5, .int .i64 f6, .bool f7] 48 (0, 0))) : W.cell? ⟨g, 0, none⟩ = some (.string f0) := (blk_cell h 0).trans rfl
theorem IsS48.set_0 {w0 W : World} {g : Nat} {f0 : ByteArray} {f1 : Int} {f2 : Int} {f3 : Int} {f4 : Int} {f5 : Int} {f6 : Int} {f7 : Bool} (h : IsS48 w0 W g f0 f1 f2 f3 f4 f5 f6 f7) (x : ByteArray) : IsS48 w0 (W.setCell ⟨g, 0, none⟩ (.string x)) g x f1 f2 f3 f4 f5 f6 f7 := by
 obtain ⟨hb, hg⟩ := h
 exact ⟨by simpa using blk_set hb 0 (.string x), hg⟩
theorem cellS48_1 {W : World} {g : Nat} {f0 : ByteArray} {f1 : Int} {f2 : Int} {f3 : Int} {f4 : Int} {f5 : Int} {f6 : Int} {f7 : Bool} (h : W.heap[g]? = some (.cells #[.string f0, .int .i64 f1, .int .i64 f2, .int .i64 f3, .int .i64 f4, .int .i64 f5, .int .i64 f6, .bool f7] 48 (0, 0))) : W.cell? ⟨g, 1, none⟩ = some (.int .i64 f1) := (blk_cell h 1).trans rfl
theorem IsS48.set_1 {w0 W : World} {g : Nat} {f0 : ByteArray} {f1 : Int} {f2 : Int} {f3 : Int} {f4 : Int} {f5 : Int} {f6 : Int} {f7 : Bool} (h : IsS48 w0 W g f0 f1 f2 f3 f4 f5 f6 f7) (x : Int) : IsS48 w0 (W.setCell ⟨g, 1, none⟩ (.int .i64 x)) g f0 x f2 f3 f4 f5 f6 f7 := by
 obtain ⟨hb, hg⟩ := h
 exact ⟨by simpa using blk_set hb 1 (.int .i64 x), hg⟩
theorem cellS48_2 {W : World} {g : Nat} {f0 : ByteArray} {f1 : Int} {f2 : Int} {f3 : Int} {f4 : Int} {f5 : Int} {f6 : Int} {f7 : Bool} (h : W.heap[g]? = some (.cells #[.string f0, .int .i64 f1, .int .i64 f2, .int .i64 f3, .int .i64 f4, .int .i64 f5, .int .i64 f6, .bool f7] 48 (0, 0))) : W.cell? ⟨g, 2, none⟩ = some (.int .i64 f2) := (blk_cell h 2).trans rfl
theorem IsS48.set_2 {w0 W : World} {g : Nat} {f0 : ByteArray} {f1 : Int} {f2 : Int} {f3 : Int} {f4 : Int} {f5 : Int} {f6 : Int} {f7 : Bool} (h : IsS48 w0 W g f0 f1 f2 f3 f4 f5 f6 f7) (x : Int) : IsS48 w0 (W.setCell ⟨g, 2, none⟩ (.int .i64 x)) g f0 f1 x f3 f4 f5 f6 f7 := by
 obtain ⟨hb, hg⟩ := h
 exact ⟨by simpa using blk_set hb 2 (.int .i64 x), hg⟩
theorem cellS48_3 {W : World} {g : Nat} {f0 : ByteArray} {f1 : Int} {f2 : Int} {f3 : Int} {f4 : Int} {f5 : Int} {f6 : Int} {f7 : Bool} (h : W.heap[g]? = some (.cells #[.string f0, .int .i64 f1, .int .i64 f2, .int .i64 f3, .int .i64 f4, .int .i64 f5, .int .i64 f6, .bool f7] 48 (0, 0))) : W.cell? ⟨g, 3, none⟩ = some (.int .i64 f3) := (blk_cell h 3).trans rfl
theorem IsS48.set_3 {w0 W : World} {g : Nat} {f0 : ByteArray} {f1 : Int} {f2 : Int} {f3 : Int} {f4 : Int} {f5 : Int} {f6 : Int} {f7 : Bool} (h : IsS48 w0 W g f0 f1 f2 f3 f4 f5 f6 f7) (x : Int) : IsS48 w0 (W.setCell ⟨g, 3, none⟩ (.int .i64 x)) g f0 f1 f2 x f4 f5 f6 f7 := by
 obtain ⟨hb, hg⟩ := h
 exact ⟨by simpa using blk_set hb 3 (.int .i64 x), hg⟩
theorem cellS48_4 {W : World} {g : Nat} {f0 : ByteArray} {f1 : Int} {f2 : Int} {f3 : Int} {f4 : Int} {f5 : Int} {f6 : Int} {f7 : Bool} (h : W.heap[g]? = some (.cells #[.string f0, .int .i64 f1, .int .i64 f2, .int .i64 f3, .int .i64 f4, .int .i64 f5, .int .i64 f6, .bool f7] 48 (0, 0))) : W.cell? ⟨g, 4, none⟩ = some (.int .i64 f4) := (blk_cell h 4).trans rfl
theorem IsS48.set_4 {w0 W : World} {g : Nat} {f0 : ByteArray} {f1 : Int} {f2 : Int} {f3 : Int} {f4 : Int} {f5 : Int} {f6 : Int} {f7 : Bool} (h : IsS48 w0 W g f0 f1 f2 f3 f4 f5 f6 f7) (x : Int) : IsS48 w0 (W.setCell ⟨g, 4, none⟩ (.int .i64 x)) g f0 f1 f2 f3 x f5 f6 f7 := by
 obtain ⟨hb, hg⟩ := h
 exact ⟨by simpa using blk_set hb 4 (.int .i64 x), hg⟩
theorem cellS48_5 {W : World} {g : Nat} {f0 : ByteArray} {f1 : Int} {f2 : Int} {f3 : Int} {f4 : Int} {f5 : Int} {f6 : Int} {f7 : Bool} (h : W.heap[g]? = some (.cells #[.string f0, .int .i64 f1, .int .i64 f2, .int .i64 f3, .int .i64 f4, .int .i64 f5, .int .i64 f6, .bool f7] 48 (0, 0))) : W.cell? ⟨g, 5, none⟩ = some (.int .i64 f5) := (blk_cell h 5).trans rfl
theorem IsS48.set_5 {w0 W : World} {g : Nat} {f0 : ByteArray} {f1 : Int} {f2 : Int} {f3 : Int} {f4 : Int} {f5 : Int} {f6 : Int} {f7 : Bool} (h : IsS48 w0 W g f0 f1 f2 f3 f4 f5 f6 f7) (x : Int) : IsS48 w0 (W.setCell ⟨g, 5, none⟩ (.int .i64 x)) g f0 f1 f2 f3 f4 x f6 f7 := by
 obtain ⟨hb, hg⟩ := h
 exact ⟨by simpa using blk_set hb 5 (.int .i64 x), hg⟩
theorem cellS48_6 {W : World} {g : Nat} {f0 : ByteArray} {f1 : Int} {f2 : Int} {f3 : Int} {f4 : Int} {f5 : Int} {f6 : Int} {f7 : Bool} (h : W.heap[g]? = some (.cells #[.string f0, .int .i64 f1, .int .i64 f2, .int .i64 f3, .int .i64 f4, .int .i64 f5, .int .i64 f6, .bool f7] 48 (0, 0))) : W.cell? ⟨g, 6, none⟩ = some (.int .i64 f6) := (blk_cell h 6).trans rfl
theorem IsS48.set_6 {w0 W : World} {g : Nat} {f0 : ByteArray} {f1 : Int} {f2 : Int} {f3 : Int} {f4 : Int} {f5 : Int} {f6 : Int} {f7 : Bool} (h : IsS48 w0 W g f0 f1 f2 f3 f4 f5 f6 f7) (x : Int) : IsS48 w0 (W.setCell ⟨g, 6, none⟩ (.int .i64 x)) g f0 f1 f2 f3 f4 f5 x f7 := by
 obtain ⟨hb, hg⟩ := h
 exact ⟨by simpa using blk_set hb 6 (.int .i64 x), hg⟩
theorem cellS48_7 {W : World} {g : Nat} {f0 : ByteArray} {f1 : Int} {f2 : Int} {f3 : Int} {f4 : Int} {f5 : Int} {f6 : Int} {f7 : Bool} (h : W.heap[g]? = some (.cells #[.string f0, .int .i64 f1, .int .i64 f2, .int .i64 f3, .int .i64 f4, .int .i64 f5, .int .i64 f6, .bool f7] 48 (0, 0))) : W.cell? ⟨g, 7, none⟩ = some (.bool f7) := (blk_cell h 7).trans rfl
theorem IsS48.set_7 {w0 W : World} {g : Nat} {f0 : ByteArray} {f1 : Int} {f2 : Int} {f3 : Int} {f4 : Int} {f5 : Int} {f6 : Int} {f7 : Bool} (h : IsS48 w0 W g f0 f1 f2 f3 f4 f5 f6 f7) (x : Bool) : IsS48 w0 (W.setCell ⟨g, 7, none⟩ (.bool x)) g f0 f1 f2 f3 f4 f5 f6 x := by
 obtain ⟨hb, hg⟩ := h
 exact ⟨by simpa using blk_set hb 7 (.bool x), hg⟩
theorem IsS48.new (w0 W : World) (f0 : ByteArray) (f1 : Int) (f2 : Int) (f3 : Int) (f4 : Int) (f5 : Int) (f6 : Int) (f7 : Bool) (hB : Below w0.heap.size w0 W) : IsS48 w0 (W.alloc (.cells #[.string f0, .int .i64 f1, .int .i64 f2, .int .i64 f3, .int .i64 f4, .int .i64 f5, .int .i64 f6, .bool f7] 48)) W.heap.size f0 f1 f2 f3 f4 f5 f6 f7 := ⟨by simpa using heap_alloc_new W _, hB.size⟩

end Go.Proofs.YtpgfecaomdioeaaDoor.PCt
namespace Go.Proofs.YtpgfecaomdioeaaDoor.PCt
open Go.RowKit Go.Proofs.YtpgfecaomdioeaaDoor.PCt Go.Proofs.YtpgfecaomdioeaaDoorW.PrintWords Go.Proofs.YtpgfecaomdioeaaDoorW.PrintLast Go.Proofs.YtpgfecaomdioeaaDoorW.PrintMore 
set_option linter.unusedVariables false
set_option linter.unusedSimpArgs false

def numL : List Int → Nat → Int → Option (Int × Nat)
 | [], _, _ => none
 | c :: t, i, n => if 5 ≤ i then none else if 128 ≤ c then numL t (i + 1) (n + (c % 128) * 128 ^ i) else
   if (0 < i ∧ c = 0) ∨ 2147483647 < n + (c % 128) * 128 ^ i then none else some (n + (c % 128) * 128 ^ i, i + 1)
def RdrV (W0 : World) (w' : World) (R : Nat) (l : List Int) (bad : Bool) : Prop := ∃ A c, w'.heap[R]? = some (.cells #[.slice A l.length c, .bool bad] 54 (0, 0)) ∧ Kd.C (Kd.int .u8) W0 A l.length l ∧ l.length ≤ c
theorem bit_and_not : ∀ c : Int, 0 ≤ c → c < 256 → Go.bits .andNot .u8 c 128 = c % 128 := by
 intro c h0 h1
 obtain ⟨n, rfl⟩ := Int.eq_ofNat_of_zero_le h0
 have : ∀ m : Fin 256, Go.bits .andNot .u8 ((m.val : Nat) : Int) 128 = ((m.val : Nat) : Int) % 128 := by decide +kernel
 exact this ⟨n, by omega⟩
theorem bit_and : ∀ c : Int, 0 ≤ c → c < 256 → Go.bits .and .u8 c 128 = if 128 ≤ c then 128 else 0 := by
 intro c h0 h1
 obtain ⟨n, rfl⟩ := Int.eq_ofNat_of_zero_le h0
 have : ∀ m : Fin 256, Go.bits .and .u8 ((m.val : Nat) : Int) 128 = if 128 ≤ ((m.val : Nat) : Int) then 128 else 0 := by decide +kernel
 exact this ⟨n, by omega⟩
theorem lt_eq {a b c : Int} (h : a < b) (e : b = c) : a < c := e ▸ h
theorem or_low (s : Nat) (x d : Int) (hs : s ≤ 28) (h0 : 0 ≤ x) (h1 : x < 2 ^ s) (d0 : 0 ≤ d) (d1 : d < 128) : Go.bits .or .i64 x (d * 2 ^ s) = x + d * 2 ^ s := by
 have hw : ∀ n : Int, 0 ≤ n → n < 2 ^ 62 → IntKind.i64.wrap n = n := fun n a b => by rw [IntKind.wrap_i64]; omega
 obtain ⟨a, rfl⟩ := Int.eq_ofNat_of_zero_le h0
 obtain ⟨b, rfl⟩ := Int.eq_ofNat_of_zero_le d0
 have ha : a < 2 ^ s := by exact_mod_cast h1
 have hp : 2 ^ s ≤ 2 ^ 28 := Nat.pow_le_pow_right (by decide) hs
 have hb : b < 128 := by omega
 have hq : b * 2 ^ s < 2 ^ 62 := Nat.lt_of_lt_of_le (Nat.mul_lt_mul_of_lt_of_le hb hp (by decide)) (by decide)
 have hc : ((b : Int) * 2 ^ s) = ((b * 2 ^ s : Nat) : Int) := by simp
 rw [hc, (bits_nat .i64 62 (by decide) hw a (b * 2 ^ s) (by omega) hq).2, Nat.or_comm, Nat.mul_comm, ← Nat.two_pow_add_eq_or_of_lt ha b]
 rw [Int.natCast_add]
 omega
theorem low_set {W0 W : World} {R : Nat} (hB : Below W0.heap.size W0 W) (hg : W0.heap.size ≤ R) (i : Nat) (u : Value) : Below W0.heap.size W0 (W.setCell ⟨R, i, none⟩ u) := by
 refine ⟨hB.os, hB.tape, hB.output, ?_, fun k hk => ?_⟩
 ·have := hB.size
  simpa [World.setCell] using this
 ·rw [Below.heap_setCell W _ u k (by simp; omega)]
  exact hB.block k hk
theorem keep_set {W w' : World} {R : Nat} (h : KeepBut W w' R none) (i : Nat) (u : Value) : KeepBut W (w'.setCell ⟨R, i, none⟩ u) R none := by
 refine ⟨by have := h.1; simpa [World.setCell] using this, fun k hk hne hr => ?_⟩
 rw [Below.heap_setCell w' _ u k (by simpa using hne)]
 exact h.2 k hk hne hr
theorem end_bad {W0 W : World} {R : Nat} {S : Value} {b : Bool} (BK : W.heap[R]? = some (.cells #[S, .bool b] 54 (0, 0))) (hB : Below W0.heap.size W0 W) (hg : W0.heap.size ≤ R) (n : Nat) :
  RdrV W0 (((W.drewN n).setCell ⟨R, 0, none⟩ (.slice none 0 0)).setCell ⟨R, 1, none⟩ (.bool true)) R [] true ∧ Below W0.heap.size W0 (((W.drewN n).setCell ⟨R, 0, none⟩ (.slice none 0 0)).setCell ⟨R, 1, none⟩ (.bool true)) ∧ KeepBut W (((W.drewN n).setCell ⟨R, 0, none⟩ (.slice none 0 0)).setCell ⟨R, 1, none⟩ (.bool true)) R none :=
 ⟨⟨none, 0, blk_put (blk_put (blk_drewN BK n) 0 _ rfl) 1 _ rfl, Kd.C_nil _ _, Nat.le_refl _⟩, low_set (low_set (pw_below_drewN hB n) hg _ _) hg _ _, keep_set (keep_set ⟨Nat.le_refl _, fun _ _ _ _ => rfl⟩ _ _) _ _⟩
theorem end_ok {W0 W : World} {R : Nat} {S : Value} {b : Bool} (BK : W.heap[R]? = some (.cells #[S, .bool b] 54 (0, 0))) (hB : Below W0.heap.size W0 W) (hg : W0.heap.size ≤ R) (n : Nat) {A : Option Addr} {l : List Int} {c : Nat} (hC : Kd.C (Kd.int .u8) W0 A l.length l) (hc : l.length ≤ c) (k : Nat) (hk : k ≤ l.length) (A' : Option Addr) (hA : A' = if c = k then A else A.map (·.add k)) (m : Nat) (hm : m = l.length - k) (c' : Nat) (hc' : c' = c - k) :
  RdrV W0 ((W.drewN n).setCell ⟨R, 0, none⟩ (.slice A' m c')) R (l.drop k) b ∧ Below W0.heap.size W0 ((W.drewN n).setCell ⟨R, 0, none⟩ (.slice A' m c')) ∧ KeepBut W ((W.drewN n).setCell ⟨R, 0, none⟩ (.slice A' m c')) R none := by
 subst hA hm hc'
 have h1 := Kd.C_drop (c := c) hC hk hc
 rw [show (Kd.int IntKind.u8).sz = 1 from rfl, Nat.mul_one] at h1
 refine ⟨⟨_, c - k, ?_, h1, by rw [List.length_drop]; omega⟩, low_set (pw_below_drewN hB n) hg _ _, keep_set ⟨Nat.le_refl _, fun _ _ _ _ => rfl⟩ _ _⟩
 rw [List.length_drop]
 exact blk_put (blk_drewN BK n) 0 _ rfl
def NumPost (W0 W : World) (R : Nat) (l : List Int) (bad : Bool) (e : Ending) (w' : World) : Prop :=
 (match numL l 0 0 with | none => e = .returned (.int .i64 0) ∧ RdrV W0 w' R [] true | some (x, k) => e = .returned (.int .i64 x) ∧ RdrV W0 w' R (l.drop k) bad) ∧ Below W0.heap.size W0 w' ∧ KeepBut W w' R none
theorem post_bad {W0 W w' : World} {R : Nat} {l : List Int} {bad : Bool} (h : numL l 0 0 = none) (k : RdrV W0 w' R [] true ∧ Below W0.heap.size W0 w' ∧ KeepBut W w' R none) : NumPost W0 W R l bad (.returned (.int .i64 0)) w' := by
 unfold NumPost
 rw [h]
 exact ⟨⟨rfl, k.1⟩, k.2⟩
theorem post_ok {W0 W w' : World} {R : Nat} {l : List Int} {bad : Bool} {x : Int} {n : Nat} (h : numL l 0 0 = some (x, n)) (k : RdrV W0 w' R (l.drop n) bad ∧ Below W0.heap.size W0 w' ∧ KeepBut W w' R none) : NumPost W0 W R l bad (.returned (.int .i64 x)) w' := by
 unfold NumPost
 rw [h]
 exact ⟨⟨rfl, k.1⟩, k.2⟩
theorem numL_five (l : List Int) (x : Int) : numL l 5 x = none := by
 cases l with
 | nil => rfl
 | cons c t => simp [numL]
attribute [local go_sem] max2_int min2_int max_two min_two
set_option maxHeartbeats 16000000 in
set_option maxRecDepth 100000 in
theorem number_c (W0 W : World) (R : Nat) (l : List Int) (bad : Bool) (hR : RdrV W0 W R l bad) (hB : Below W0.heap.size W0 W) (hg : W0.heap.size ≤ R) (hb : ∀ x ∈ l, 0 ≤ x ∧ x < 256) :
  Calls Tryd.prog 22 #[.pointer (some ⟨R, 0, none⟩)] W (NumPost W0 W R l bad) := by
 obtain ⟨A, c, BK, hC, hc⟩ := hR
 have hc0 := (blk_cell BK 0).trans rfl
 have hc1 := (blk_cell BK 1).trans rfl
 have hf0 := blk_frozen BK 0
 have hf1 := blk_frozen BK 1
 have hlen : l.length ≤ 9223372036854775807 := hC.2.1
 have HC := Aside0.mk hC
 have HBK := Aside0.mk BK
 have HB := Aside0.mk hB
 have HG := Aside0.mk hg
 have HL := Aside0.mk hb
 have HCC := Aside0.mk hc
 clear hC BK hB hb
 have HCB := Aside0.mk (Kd.C_below HC.out HB.out)
 by_cases h5 : l.length ≤ 5
 ·have hmc : (l.length : Int) ≤ (c : Int) := by omega
  have e1 : ((l.length : Int) ≤ 5) = True := eq_true (by omega)
  have e2 : ((0 : Int) ≤ (l.length : Int)) = True := eq_true (by omega)
  have e3 : ((l.length : Int) < 5) ∨ (l.length : Int) = 5 := by omega
  go_enter Tryd.func22, Tryd.ntmps22
  go_wp2
  go_quiet (fail)
  go_wp2
  clear e1 e2 e3
  go_loop [3, 18] (fun v3 v18 => ∃ (i : Nat) (x iv : Int), v3 = .int .i64 x ∧ v18 = .int .i64 iv ∧ iv = i ∧ i ≤ l.length ∧ Aside0 (0 ≤ x ∧ x < 128 ^ i) ∧ Aside0 (numL l 0 0 = numL (l.drop i) i x)) (fun _ v18 => l.length - (intOf v18).toNat)
  case atStart => exact ⟨0, 0, 0, rfl, rfl, rfl, by omega, ⟨by omega, by decide⟩, ⟨rfl⟩⟩
  case round =>
   obtain ⟨i, x, iv, rfl, rfl, hiv, hi, HX, HN⟩ := hrel
   by_cases hlt : i < l.length
   ·have hi5 : i < 5 := by omega
    have hd := HN.out
    rw [show l.drop i = rd l iv :: l.drop (i + 1) by rw [List.drop_eq_getElem_cons (by omega)]; unfold rd; rw [show iv.toNat = i by omega, List.getD_eq_getElem?_getD, List.getElem?_eq_getElem (by omega)]; rfl] at hd
    simp only [numL] at hd
    obtain ⟨ad, rfl, hcell⟩ := Kd.at_int HCB.out iv (by omega) (by omega)
    have hv := HL.out (rd l iv) (by unfold rd; rw [List.getD_eq_getElem?_getD, List.getElem?_eq_getElem (by omega)]; exact List.getElem_mem _)
    generalize rd l iv = cv at hd hv hcell
    rw [if_neg (by omega)] at hd
    have b1 := bit_and_not cv hv.1 hv.2
    have b2 := bit_and cv hv.1 hv.2
    obtain ⟨dv, hdv⟩ : ∃ dv, dv = cv % 128 := ⟨_, rfl⟩
    rw [← hdv] at b1 hd
    have hd0 : 0 ≤ dv ∧ dv < 128 := by omega
    obtain ⟨rfl, rfl⟩ | ⟨rfl, rfl⟩ | ⟨rfl, rfl⟩ | ⟨rfl, rfl⟩ | ⟨rfl, rfl⟩ : (i = 0 ∧ iv = 0) ∨ (i = 1 ∧ iv = 1) ∨ (i = 2 ∧ iv = 2) ∨ (i = 3 ∧ iv = 3) ∨ (i = 4 ∧ iv = 4) := by omega
    all_goals simp [go_sem] at hcell
    ·have hx := HX.out
     have hx1 : 0 ≤ x ∧ x < 1 := ⟨hx.1, lt_eq hx.2 (by decide)⟩
     obtain ⟨nv, hnv⟩ : ∃ nv, nv = x + dv := ⟨_, rfl⟩
     have e6 : Go.bits .or .i64 x (dv) = nv := by
      have := or_low 0 x dv (by decide) hx1.1 (lt_eq hx1.2 (by decide)) hd0.1 hd0.2
      rw [show ((2 : Int) ^ 0) = 1 by decide, Int.mul_one] at this
      rw [this, hnv]
     have hnb : 0 ≤ nv ∧ nv < 128 := by omega
     rw [show x + dv * 128 ^ 0 = nv by rw [hnv, show ((128 : Int) ^ 0) = 1 by decide, Int.mul_one]] at hd
     clear hnv hx HX
     by_cases hm : 128 ≤ cv
     ·rw [if_pos hm] at b2 hd
      have HD := Aside0.mk hd
      clear hd hdv HN hiv
      go_wp2
      exact ⟨⟨1, nv, 1, rfl, rfl, rfl, by omega, ⟨hnb.1, lt_eq hnb.2 (by decide)⟩, HD⟩, by simp [intOf] <;> omega⟩
     ·rw [if_neg hm] at b2 hd
      rw [if_neg (by omega)] at hd
      have HD := Aside0.mk hd
      have z2 : decide (2147483647 < nv) = false := decide_eq_false (by omega)
      clear hd hdv HN hiv
      by_cases hck : c = 1
      ·have y1 : (1 : Int) ≤ (l.length : Int) := by omega
       have y2 : (l.length : Int) ≤ (c : Int) := by omega
       have y3 : (1 : Int) ≤ (c : Int) := by omega
       have HK := Aside0.mk hck
       have y4 : ((1 : Int) == (c : Int)) = true := by rw [beq_iff_eq]; omega
       go_wp2
       go_ret
       exact post_ok HD.out (end_ok HBK.out HB.out HG.out _ HC.out HCC.out 1 (by omega) _ (by first | (rw [if_pos HK.out]; done) | (rw [if_pos HK.out]; rfl) | (rw [if_neg HK.out]; done) | (rw [if_neg HK.out]; rfl)) _ (by first | rfl | omega) _ (by first | rfl | omega))
      ·have y1 : (1 : Int) ≤ (l.length : Int) := by omega
       have y2 : (l.length : Int) ≤ (c : Int) := by omega
       have y3 : (1 : Int) ≤ (c : Int) := by omega
       have HK := Aside0.mk hck
       have y4 : ((1 : Int) == (c : Int)) = false := by rw [beq_eq_false_iff_ne]; omega
       go_wp2
       go_ret
       exact post_ok HD.out (end_ok HBK.out HB.out HG.out _ HC.out HCC.out 1 (by omega) _ (by first | (rw [if_pos HK.out]; done) | (rw [if_pos HK.out]; rfl) | (rw [if_neg HK.out]; done) | (rw [if_neg HK.out]; rfl)) _ (by first | rfl | omega) _ (by first | rfl | omega))
    ·have hx := HX.out
     have hx1 : 0 ≤ x ∧ x < 128 := ⟨hx.1, lt_eq hx.2 (by decide)⟩
     obtain ⟨nv, hnv⟩ : ∃ nv, nv = x + dv * 128 := ⟨_, rfl⟩
     have e6 : Go.bits .or .i64 x (dv * 128) = nv := by
      have := or_low 7 x dv (by decide) hx1.1 (lt_eq hx1.2 (by decide)) hd0.1 hd0.2
      rw [show ((2 : Int) ^ 7) = 128 by decide] at this
      rw [this, hnv]
     have hnb : 0 ≤ nv ∧ nv < 16384 := by omega
     rw [show x + dv * 128 ^ 1 = nv by rw [hnv, show ((128 : Int) ^ 1) = 128 by decide]] at hd
     clear hnv hx HX
     by_cases hm : 128 ≤ cv
     ·rw [if_pos hm] at b2 hd
      have HD := Aside0.mk hd
      clear hd hdv HN hiv
      go_wp2
      exact ⟨⟨2, nv, 2, rfl, rfl, rfl, by omega, ⟨hnb.1, lt_eq hnb.2 (by decide)⟩, HD⟩, by simp [intOf] <;> omega⟩
     ·rw [if_neg hm] at b2 hd
      by_cases hz : cv = 0
      ·rw [if_pos (.inl ⟨by omega, hz⟩)] at hd
       have HD := Aside0.mk hd
       clear hd hdv HN hiv
       have z1 : (cv == 0) = true := beq_iff_eq.mpr hz
       clear hz
       go_wp2
       go_ret
       exact post_bad HD.out (end_bad HBK.out HB.out HG.out _)
      rw [if_neg (by omega)] at hd
      have HD := Aside0.mk hd
      have z1 : (cv == 0) = false := beq_eq_false_iff_ne.mpr hz
      clear hz
      have z2 : decide (2147483647 < nv) = false := decide_eq_false (by omega)
      clear hd hdv HN hiv
      by_cases hck : c = 2
      ·have y1 : (2 : Int) ≤ (l.length : Int) := by omega
       have y2 : (l.length : Int) ≤ (c : Int) := by omega
       have y3 : (2 : Int) ≤ (c : Int) := by omega
       have HK := Aside0.mk hck
       have y4 : ((2 : Int) == (c : Int)) = true := by rw [beq_iff_eq]; omega
       go_wp2
       go_ret
       exact post_ok HD.out (end_ok HBK.out HB.out HG.out _ HC.out HCC.out 2 (by omega) _ (by first | (rw [if_pos HK.out]; done) | (rw [if_pos HK.out]; rfl) | (rw [if_neg HK.out]; done) | (rw [if_neg HK.out]; rfl)) _ (by first | rfl | omega) _ (by first | rfl | omega))
      ·have y1 : (2 : Int) ≤ (l.length : Int) := by omega
       have y2 : (l.length : Int) ≤ (c : Int) := by omega
       have y3 : (2 : Int) ≤ (c : Int) := by omega
       have HK := Aside0.mk hck
       have y4 : ((2 : Int) == (c : Int)) = false := by rw [beq_eq_false_iff_ne]; omega
       go_wp2
       go_ret
       exact post_ok HD.out (end_ok HBK.out HB.out HG.out _ HC.out HCC.out 2 (by omega) _ (by first | (rw [if_pos HK.out]; done) | (rw [if_pos HK.out]; rfl) | (rw [if_neg HK.out]; done) | (rw [if_neg HK.out]; rfl)) _ (by first | rfl | omega) _ (by first | rfl | omega))
    ·have hx := HX.out
     have hx1 : 0 ≤ x ∧ x < 16384 := ⟨hx.1, lt_eq hx.2 (by decide)⟩
     obtain ⟨nv, hnv⟩ : ∃ nv, nv = x + dv * 16384 := ⟨_, rfl⟩
     have e6 : Go.bits .or .i64 x (dv * 16384) = nv := by
      have := or_low 14 x dv (by decide) hx1.1 (lt_eq hx1.2 (by decide)) hd0.1 hd0.2
      rw [show ((2 : Int) ^ 14) = 16384 by decide] at this
      rw [this, hnv]
     have hnb : 0 ≤ nv ∧ nv < 2097152 := by omega
     rw [show x + dv * 128 ^ 2 = nv by rw [hnv, show ((128 : Int) ^ 2) = 16384 by decide]] at hd
     clear hnv hx HX
     by_cases hm : 128 ≤ cv
     ·rw [if_pos hm] at b2 hd
      have HD := Aside0.mk hd
      clear hd hdv HN hiv
      go_wp2
      exact ⟨⟨3, nv, 3, rfl, rfl, rfl, by omega, ⟨hnb.1, lt_eq hnb.2 (by decide)⟩, HD⟩, by simp [intOf] <;> omega⟩
     ·rw [if_neg hm] at b2 hd
      by_cases hz : cv = 0
      ·rw [if_pos (.inl ⟨by omega, hz⟩)] at hd
       have HD := Aside0.mk hd
       clear hd hdv HN hiv
       have z1 : (cv == 0) = true := beq_iff_eq.mpr hz
       clear hz
       go_wp2
       go_ret
       exact post_bad HD.out (end_bad HBK.out HB.out HG.out _)
      rw [if_neg (by omega)] at hd
      have HD := Aside0.mk hd
      have z1 : (cv == 0) = false := beq_eq_false_iff_ne.mpr hz
      clear hz
      have z2 : decide (2147483647 < nv) = false := decide_eq_false (by omega)
      clear hd hdv HN hiv
      by_cases hck : c = 3
      ·have y1 : (3 : Int) ≤ (l.length : Int) := by omega
       have y2 : (l.length : Int) ≤ (c : Int) := by omega
       have y3 : (3 : Int) ≤ (c : Int) := by omega
       have HK := Aside0.mk hck
       have y4 : ((3 : Int) == (c : Int)) = true := by rw [beq_iff_eq]; omega
       go_wp2
       go_ret
       exact post_ok HD.out (end_ok HBK.out HB.out HG.out _ HC.out HCC.out 3 (by omega) _ (by first | (rw [if_pos HK.out]; done) | (rw [if_pos HK.out]; rfl) | (rw [if_neg HK.out]; done) | (rw [if_neg HK.out]; rfl)) _ (by first | rfl | omega) _ (by first | rfl | omega))
      ·have y1 : (3 : Int) ≤ (l.length : Int) := by omega
       have y2 : (l.length : Int) ≤ (c : Int) := by omega
       have y3 : (3 : Int) ≤ (c : Int) := by omega
       have HK := Aside0.mk hck
       have y4 : ((3 : Int) == (c : Int)) = false := by rw [beq_eq_false_iff_ne]; omega
       go_wp2
       go_ret
       exact post_ok HD.out (end_ok HBK.out HB.out HG.out _ HC.out HCC.out 3 (by omega) _ (by first | (rw [if_pos HK.out]; done) | (rw [if_pos HK.out]; rfl) | (rw [if_neg HK.out]; done) | (rw [if_neg HK.out]; rfl)) _ (by first | rfl | omega) _ (by first | rfl | omega))
    ·have hx := HX.out
     have hx1 : 0 ≤ x ∧ x < 2097152 := ⟨hx.1, lt_eq hx.2 (by decide)⟩
     obtain ⟨nv, hnv⟩ : ∃ nv, nv = x + dv * 2097152 := ⟨_, rfl⟩
     have e6 : Go.bits .or .i64 x (dv * 2097152) = nv := by
      have := or_low 21 x dv (by decide) hx1.1 (lt_eq hx1.2 (by decide)) hd0.1 hd0.2
      rw [show ((2 : Int) ^ 21) = 2097152 by decide] at this
      rw [this, hnv]
     have hnb : 0 ≤ nv ∧ nv < 268435456 := by omega
     rw [show x + dv * 128 ^ 3 = nv by rw [hnv, show ((128 : Int) ^ 3) = 2097152 by decide]] at hd
     clear hnv hx HX
     by_cases hm : 128 ≤ cv
     ·rw [if_pos hm] at b2 hd
      have HD := Aside0.mk hd
      clear hd hdv HN hiv
      go_wp2
      exact ⟨⟨4, nv, 4, rfl, rfl, rfl, by omega, ⟨hnb.1, lt_eq hnb.2 (by decide)⟩, HD⟩, by simp [intOf] <;> omega⟩
     ·rw [if_neg hm] at b2 hd
      by_cases hz : cv = 0
      ·rw [if_pos (.inl ⟨by omega, hz⟩)] at hd
       have HD := Aside0.mk hd
       clear hd hdv HN hiv
       have z1 : (cv == 0) = true := beq_iff_eq.mpr hz
       clear hz
       go_wp2
       go_ret
       exact post_bad HD.out (end_bad HBK.out HB.out HG.out _)
      rw [if_neg (by omega)] at hd
      have HD := Aside0.mk hd
      have z1 : (cv == 0) = false := beq_eq_false_iff_ne.mpr hz
      clear hz
      have z2 : decide (2147483647 < nv) = false := decide_eq_false (by omega)
      clear hd hdv HN hiv
      by_cases hck : c = 4
      ·have y1 : (4 : Int) ≤ (l.length : Int) := by omega
       have y2 : (l.length : Int) ≤ (c : Int) := by omega
       have y3 : (4 : Int) ≤ (c : Int) := by omega
       have HK := Aside0.mk hck
       have y4 : ((4 : Int) == (c : Int)) = true := by rw [beq_iff_eq]; omega
       go_wp2
       go_ret
       exact post_ok HD.out (end_ok HBK.out HB.out HG.out _ HC.out HCC.out 4 (by omega) _ (by first | (rw [if_pos HK.out]; done) | (rw [if_pos HK.out]; rfl) | (rw [if_neg HK.out]; done) | (rw [if_neg HK.out]; rfl)) _ (by first | rfl | omega) _ (by first | rfl | omega))
      ·have y1 : (4 : Int) ≤ (l.length : Int) := by omega
       have y2 : (l.length : Int) ≤ (c : Int) := by omega
       have y3 : (4 : Int) ≤ (c : Int) := by omega
       have HK := Aside0.mk hck
       have y4 : ((4 : Int) == (c : Int)) = false := by rw [beq_eq_false_iff_ne]; omega
       go_wp2
       go_ret
       exact post_ok HD.out (end_ok HBK.out HB.out HG.out _ HC.out HCC.out 4 (by omega) _ (by first | (rw [if_pos HK.out]; done) | (rw [if_pos HK.out]; rfl) | (rw [if_neg HK.out]; done) | (rw [if_neg HK.out]; rfl)) _ (by first | rfl | omega) _ (by first | rfl | omega))
    ·have hx := HX.out
     have hx1 : 0 ≤ x ∧ x < 268435456 := ⟨hx.1, lt_eq hx.2 (by decide)⟩
     obtain ⟨nv, hnv⟩ : ∃ nv, nv = x + dv * 268435456 := ⟨_, rfl⟩
     have e6 : Go.bits .or .i64 x (dv * 268435456) = nv := by
      have := or_low 28 x dv (by decide) hx1.1 (lt_eq hx1.2 (by decide)) hd0.1 hd0.2
      rw [show ((2 : Int) ^ 28) = 268435456 by decide] at this
      rw [this, hnv]
     have hnb : 0 ≤ nv ∧ nv < 34359738368 := by omega
     rw [show x + dv * 128 ^ 4 = nv by rw [hnv, show ((128 : Int) ^ 4) = 268435456 by decide]] at hd
     clear hnv hx HX
     by_cases hm : 128 ≤ cv
     ·rw [if_pos hm] at b2 hd
      have HD := Aside0.mk hd
      clear hd hdv HN hiv
      go_wp2
      exact ⟨⟨5, nv, 5, rfl, rfl, rfl, by omega, ⟨hnb.1, lt_eq hnb.2 (by decide)⟩, HD⟩, by simp [intOf] <;> omega⟩
     ·rw [if_neg hm] at b2 hd
      by_cases hz : cv = 0
      ·rw [if_pos (.inl ⟨by omega, hz⟩)] at hd
       have HD := Aside0.mk hd
       clear hd hdv HN hiv
       have z1 : (cv == 0) = true := beq_iff_eq.mpr hz
       clear hz
       go_wp2
       go_ret
       exact post_bad HD.out (end_bad HBK.out HB.out HG.out _)
      by_cases hbig : 2147483647 < nv
      ·rw [if_pos (.inr hbig)] at hd
       have HD := Aside0.mk hd
       clear hd hdv HN hiv
       have z1 : (cv == 0) = false := beq_eq_false_iff_ne.mpr hz
       have z2 : decide (2147483647 < nv) = true := decide_eq_true hbig
       clear hz hbig
       go_wp2
       go_ret
       exact post_bad HD.out (end_bad HBK.out HB.out HG.out _)
      rw [if_neg (by omega)] at hd
      have HD := Aside0.mk hd
      have z1 : (cv == 0) = false := beq_eq_false_iff_ne.mpr hz
      clear hz
      have z2 : decide (2147483647 < nv) = false := decide_eq_false (by omega)
      clear hd hdv HN hiv
      by_cases hck : c = 5
      ·have y1 : (5 : Int) ≤ (l.length : Int) := by omega
       have y2 : (l.length : Int) ≤ (c : Int) := by omega
       have y3 : (5 : Int) ≤ (c : Int) := by omega
       have HK := Aside0.mk hck
       have y4 : ((5 : Int) == (c : Int)) = true := by rw [beq_iff_eq]; omega
       go_wp2
       go_ret
       exact post_ok HD.out (end_ok HBK.out HB.out HG.out _ HC.out HCC.out 5 (by omega) _ (by first | (rw [if_pos HK.out]; done) | (rw [if_pos HK.out]; rfl) | (rw [if_neg HK.out]; done) | (rw [if_neg HK.out]; rfl)) _ (by first | rfl | omega) _ (by first | rfl | omega))
      ·have y1 : (5 : Int) ≤ (l.length : Int) := by omega
       have y2 : (l.length : Int) ≤ (c : Int) := by omega
       have y3 : (5 : Int) ≤ (c : Int) := by omega
       have HK := Aside0.mk hck
       have y4 : ((5 : Int) == (c : Int)) = false := by rw [beq_eq_false_iff_ne]; omega
       go_wp2
       go_ret
       exact post_ok HD.out (end_ok HBK.out HB.out HG.out _ HC.out HCC.out 5 (by omega) _ (by first | (rw [if_pos HK.out]; done) | (rw [if_pos HK.out]; rfl) | (rw [if_neg HK.out]; done) | (rw [if_neg HK.out]; rfl)) _ (by first | rfl | omega) _ (by first | rfl | omega))
   ·have he := HN.out
    have hi2 : i = l.length := by omega
    rw [hi2, List.drop_of_length_le (Nat.le_refl _)] at he
    simp only [numL] at he
    have HD := Aside0.mk he
    have y1 : decide (iv < (l.length : Int)) = false := decide_eq_false (by omega)
    clear he HN hiv HX hi2
    go_wp2
    go_ret
    exact post_bad HD.out (end_bad HBK.out HB.out HG.out _)
 ·have hmc : (5 : Int) ≤ (c : Int) := by omega
  have e1 : ((l.length : Int) ≤ 5) = False := eq_false (by omega)
  go_enter Tryd.func22, Tryd.ntmps22
  go_wp2
  go_quiet (fail)
  go_wp2
  clear e1
  go_loop [3, 18] (fun v3 v18 => ∃ (i : Nat) (x iv : Int), v3 = .int .i64 x ∧ v18 = .int .i64 iv ∧ iv = i ∧ i ≤ 5 ∧ Aside0 (0 ≤ x ∧ x < 128 ^ i) ∧ Aside0 (numL l 0 0 = numL (l.drop i) i x)) (fun _ v18 => 5 - (intOf v18).toNat)
  case atStart => exact ⟨0, 0, 0, rfl, rfl, rfl, by omega, ⟨by omega, by decide⟩, ⟨rfl⟩⟩
  case round =>
   obtain ⟨i, x, iv, rfl, rfl, hiv, hi, HX, HN⟩ := hrel
   by_cases hlt : i < 5
   ·have hi5 : i < 5 := by omega
    have hd := HN.out
    rw [show l.drop i = rd l iv :: l.drop (i + 1) by rw [List.drop_eq_getElem_cons (by omega)]; unfold rd; rw [show iv.toNat = i by omega, List.getD_eq_getElem?_getD, List.getElem?_eq_getElem (by omega)]; rfl] at hd
    simp only [numL] at hd
    obtain ⟨ad, rfl, hcell⟩ := Kd.at_int HCB.out iv (by omega) (by omega)
    have hv := HL.out (rd l iv) (by unfold rd; rw [List.getD_eq_getElem?_getD, List.getElem?_eq_getElem (by omega)]; exact List.getElem_mem _)
    generalize rd l iv = cv at hd hv hcell
    rw [if_neg (by omega)] at hd
    have b1 := bit_and_not cv hv.1 hv.2
    have b2 := bit_and cv hv.1 hv.2
    obtain ⟨dv, hdv⟩ : ∃ dv, dv = cv % 128 := ⟨_, rfl⟩
    rw [← hdv] at b1 hd
    have hd0 : 0 ≤ dv ∧ dv < 128 := by omega
    obtain ⟨rfl, rfl⟩ | ⟨rfl, rfl⟩ | ⟨rfl, rfl⟩ | ⟨rfl, rfl⟩ | ⟨rfl, rfl⟩ : (i = 0 ∧ iv = 0) ∨ (i = 1 ∧ iv = 1) ∨ (i = 2 ∧ iv = 2) ∨ (i = 3 ∧ iv = 3) ∨ (i = 4 ∧ iv = 4) := by omega
    all_goals simp [go_sem] at hcell
    ·have hx := HX.out
     have hx1 : 0 ≤ x ∧ x < 1 := ⟨hx.1, lt_eq hx.2 (by decide)⟩
     obtain ⟨nv, hnv⟩ : ∃ nv, nv = x + dv := ⟨_, rfl⟩
     have e6 : Go.bits .or .i64 x (dv) = nv := by
      have := or_low 0 x dv (by decide) hx1.1 (lt_eq hx1.2 (by decide)) hd0.1 hd0.2
      rw [show ((2 : Int) ^ 0) = 1 by decide, Int.mul_one] at this
      rw [this, hnv]
     have hnb : 0 ≤ nv ∧ nv < 128 := by omega
     rw [show x + dv * 128 ^ 0 = nv by rw [hnv, show ((128 : Int) ^ 0) = 1 by decide, Int.mul_one]] at hd
     clear hnv hx HX
     by_cases hm : 128 ≤ cv
     ·rw [if_pos hm] at b2 hd
      have HD := Aside0.mk hd
      clear hd hdv HN hiv
      go_wp2
      exact ⟨⟨1, nv, 1, rfl, rfl, rfl, by omega, ⟨hnb.1, lt_eq hnb.2 (by decide)⟩, HD⟩, by simp [intOf] <;> omega⟩
     ·rw [if_neg hm] at b2 hd
      rw [if_neg (by omega)] at hd
      have HD := Aside0.mk hd
      have z2 : decide (2147483647 < nv) = false := decide_eq_false (by omega)
      clear hd hdv HN hiv
      by_cases hck : c = 1
      ·exact absurd HCC.out (by omega)
      ·have y1 : (1 : Int) ≤ (l.length : Int) := by omega
       have y2 : (l.length : Int) ≤ (c : Int) := by omega
       have y3 : (1 : Int) ≤ (c : Int) := by omega
       have HK := Aside0.mk hck
       have y4 : ((1 : Int) == (c : Int)) = false := by rw [beq_eq_false_iff_ne]; omega
       go_wp2
       go_ret
       exact post_ok HD.out (end_ok HBK.out HB.out HG.out _ HC.out HCC.out 1 (by omega) _ (by first | (rw [if_pos HK.out]; done) | (rw [if_pos HK.out]; rfl) | (rw [if_neg HK.out]; done) | (rw [if_neg HK.out]; rfl)) _ (by first | rfl | omega) _ (by first | rfl | omega))
    ·have hx := HX.out
     have hx1 : 0 ≤ x ∧ x < 128 := ⟨hx.1, lt_eq hx.2 (by decide)⟩
     obtain ⟨nv, hnv⟩ : ∃ nv, nv = x + dv * 128 := ⟨_, rfl⟩
     have e6 : Go.bits .or .i64 x (dv * 128) = nv := by
      have := or_low 7 x dv (by decide) hx1.1 (lt_eq hx1.2 (by decide)) hd0.1 hd0.2
      rw [show ((2 : Int) ^ 7) = 128 by decide] at this
      rw [this, hnv]
     have hnb : 0 ≤ nv ∧ nv < 16384 := by omega
     rw [show x + dv * 128 ^ 1 = nv by rw [hnv, show ((128 : Int) ^ 1) = 128 by decide]] at hd
     clear hnv hx HX
     by_cases hm : 128 ≤ cv
     ·rw [if_pos hm] at b2 hd
      have HD := Aside0.mk hd
      clear hd hdv HN hiv
      go_wp2
      exact ⟨⟨2, nv, 2, rfl, rfl, rfl, by omega, ⟨hnb.1, lt_eq hnb.2 (by decide)⟩, HD⟩, by simp [intOf] <;> omega⟩
     ·rw [if_neg hm] at b2 hd
      by_cases hz : cv = 0
      ·rw [if_pos (.inl ⟨by omega, hz⟩)] at hd
       have HD := Aside0.mk hd
       clear hd hdv HN hiv
       have z1 : (cv == 0) = true := beq_iff_eq.mpr hz
       clear hz
       go_wp2
       go_ret
       exact post_bad HD.out (end_bad HBK.out HB.out HG.out _)
      rw [if_neg (by omega)] at hd
      have HD := Aside0.mk hd
      have z1 : (cv == 0) = false := beq_eq_false_iff_ne.mpr hz
      clear hz
      have z2 : decide (2147483647 < nv) = false := decide_eq_false (by omega)
      clear hd hdv HN hiv
      by_cases hck : c = 2
      ·exact absurd HCC.out (by omega)
      ·have y1 : (2 : Int) ≤ (l.length : Int) := by omega
       have y2 : (l.length : Int) ≤ (c : Int) := by omega
       have y3 : (2 : Int) ≤ (c : Int) := by omega
       have HK := Aside0.mk hck
       have y4 : ((2 : Int) == (c : Int)) = false := by rw [beq_eq_false_iff_ne]; omega
       go_wp2
       go_ret
       exact post_ok HD.out (end_ok HBK.out HB.out HG.out _ HC.out HCC.out 2 (by omega) _ (by first | (rw [if_pos HK.out]; done) | (rw [if_pos HK.out]; rfl) | (rw [if_neg HK.out]; done) | (rw [if_neg HK.out]; rfl)) _ (by first | rfl | omega) _ (by first | rfl | omega))
    ·have hx := HX.out
     have hx1 : 0 ≤ x ∧ x < 16384 := ⟨hx.1, lt_eq hx.2 (by decide)⟩
     obtain ⟨nv, hnv⟩ : ∃ nv, nv = x + dv * 16384 := ⟨_, rfl⟩
     have e6 : Go.bits .or .i64 x (dv * 16384) = nv := by
      have := or_low 14 x dv (by decide) hx1.1 (lt_eq hx1.2 (by decide)) hd0.1 hd0.2
      rw [show ((2 : Int) ^ 14) = 16384 by decide] at this
      rw [this, hnv]
     have hnb : 0 ≤ nv ∧ nv < 2097152 := by omega
     rw [show x + dv * 128 ^ 2 = nv by rw [hnv, show ((128 : Int) ^ 2) = 16384 by decide]] at hd
     clear hnv hx HX
     by_cases hm : 128 ≤ cv
     ·rw [if_pos hm] at b2 hd
      have HD := Aside0.mk hd
      clear hd hdv HN hiv
      go_wp2
      exact ⟨⟨3, nv, 3, rfl, rfl, rfl, by omega, ⟨hnb.1, lt_eq hnb.2 (by decide)⟩, HD⟩, by simp [intOf] <;> omega⟩
     ·rw [if_neg hm] at b2 hd
      by_cases hz : cv = 0
      ·rw [if_pos (.inl ⟨by omega, hz⟩)] at hd
       have HD := Aside0.mk hd
       clear hd hdv HN hiv
       have z1 : (cv == 0) = true := beq_iff_eq.mpr hz
       clear hz
       go_wp2
       go_ret
       exact post_bad HD.out (end_bad HBK.out HB.out HG.out _)
      rw [if_neg (by omega)] at hd
      have HD := Aside0.mk hd
      have z1 : (cv == 0) = false := beq_eq_false_iff_ne.mpr hz
      clear hz
      have z2 : decide (2147483647 < nv) = false := decide_eq_false (by omega)
      clear hd hdv HN hiv
      by_cases hck : c = 3
      ·exact absurd HCC.out (by omega)
      ·have y1 : (3 : Int) ≤ (l.length : Int) := by omega
       have y2 : (l.length : Int) ≤ (c : Int) := by omega
       have y3 : (3 : Int) ≤ (c : Int) := by omega
       have HK := Aside0.mk hck
       have y4 : ((3 : Int) == (c : Int)) = false := by rw [beq_eq_false_iff_ne]; omega
       go_wp2
       go_ret
       exact post_ok HD.out (end_ok HBK.out HB.out HG.out _ HC.out HCC.out 3 (by omega) _ (by first | (rw [if_pos HK.out]; done) | (rw [if_pos HK.out]; rfl) | (rw [if_neg HK.out]; done) | (rw [if_neg HK.out]; rfl)) _ (by first | rfl | omega) _ (by first | rfl | omega))
    ·have hx := HX.out
     have hx1 : 0 ≤ x ∧ x < 2097152 := ⟨hx.1, lt_eq hx.2 (by decide)⟩
     obtain ⟨nv, hnv⟩ : ∃ nv, nv = x + dv * 2097152 := ⟨_, rfl⟩
     have e6 : Go.bits .or .i64 x (dv * 2097152) = nv := by
      have := or_low 21 x dv (by decide) hx1.1 (lt_eq hx1.2 (by decide)) hd0.1 hd0.2
      rw [show ((2 : Int) ^ 21) = 2097152 by decide] at this
      rw [this, hnv]
     have hnb : 0 ≤ nv ∧ nv < 268435456 := by omega
     rw [show x + dv * 128 ^ 3 = nv by rw [hnv, show ((128 : Int) ^ 3) = 2097152 by decide]] at hd
     clear hnv hx HX
     by_cases hm : 128 ≤ cv
     ·rw [if_pos hm] at b2 hd
      have HD := Aside0.mk hd
      clear hd hdv HN hiv
      go_wp2
      exact ⟨⟨4, nv, 4, rfl, rfl, rfl, by omega, ⟨hnb.1, lt_eq hnb.2 (by decide)⟩, HD⟩, by simp [intOf] <;> omega⟩
     ·rw [if_neg hm] at b2 hd
      by_cases hz : cv = 0
      ·rw [if_pos (.inl ⟨by omega, hz⟩)] at hd
       have HD := Aside0.mk hd
       clear hd hdv HN hiv
       have z1 : (cv == 0) = true := beq_iff_eq.mpr hz
       clear hz
       go_wp2
       go_ret
       exact post_bad HD.out (end_bad HBK.out HB.out HG.out _)
      rw [if_neg (by omega)] at hd
      have HD := Aside0.mk hd
      have z1 : (cv == 0) = false := beq_eq_false_iff_ne.mpr hz
      clear hz
      have z2 : decide (2147483647 < nv) = false := decide_eq_false (by omega)
      clear hd hdv HN hiv
      by_cases hck : c = 4
      ·exact absurd HCC.out (by omega)
      ·have y1 : (4 : Int) ≤ (l.length : Int) := by omega
       have y2 : (l.length : Int) ≤ (c : Int) := by omega
       have y3 : (4 : Int) ≤ (c : Int) := by omega
       have HK := Aside0.mk hck
       have y4 : ((4 : Int) == (c : Int)) = false := by rw [beq_eq_false_iff_ne]; omega
       go_wp2
       go_ret
       exact post_ok HD.out (end_ok HBK.out HB.out HG.out _ HC.out HCC.out 4 (by omega) _ (by first | (rw [if_pos HK.out]; done) | (rw [if_pos HK.out]; rfl) | (rw [if_neg HK.out]; done) | (rw [if_neg HK.out]; rfl)) _ (by first | rfl | omega) _ (by first | rfl | omega))
    ·have hx := HX.out
     have hx1 : 0 ≤ x ∧ x < 268435456 := ⟨hx.1, lt_eq hx.2 (by decide)⟩
     obtain ⟨nv, hnv⟩ : ∃ nv, nv = x + dv * 268435456 := ⟨_, rfl⟩
     have e6 : Go.bits .or .i64 x (dv * 268435456) = nv := by
      have := or_low 28 x dv (by decide) hx1.1 (lt_eq hx1.2 (by decide)) hd0.1 hd0.2
      rw [show ((2 : Int) ^ 28) = 268435456 by decide] at this
      rw [this, hnv]
     have hnb : 0 ≤ nv ∧ nv < 34359738368 := by omega
     rw [show x + dv * 128 ^ 4 = nv by rw [hnv, show ((128 : Int) ^ 4) = 268435456 by decide]] at hd
     clear hnv hx HX
     by_cases hm : 128 ≤ cv
     ·rw [if_pos hm] at b2 hd
      have HD := Aside0.mk hd
      clear hd hdv HN hiv
      go_wp2
      exact ⟨⟨5, nv, 5, rfl, rfl, rfl, by omega, ⟨hnb.1, lt_eq hnb.2 (by decide)⟩, HD⟩, by simp [intOf] <;> omega⟩
     ·rw [if_neg hm] at b2 hd
      by_cases hz : cv = 0
      ·rw [if_pos (.inl ⟨by omega, hz⟩)] at hd
       have HD := Aside0.mk hd
       clear hd hdv HN hiv
       have z1 : (cv == 0) = true := beq_iff_eq.mpr hz
       clear hz
       go_wp2
       go_ret
       exact post_bad HD.out (end_bad HBK.out HB.out HG.out _)
      by_cases hbig : 2147483647 < nv
      ·rw [if_pos (.inr hbig)] at hd
       have HD := Aside0.mk hd
       clear hd hdv HN hiv
       have z1 : (cv == 0) = false := beq_eq_false_iff_ne.mpr hz
       have z2 : decide (2147483647 < nv) = true := decide_eq_true hbig
       clear hz hbig
       go_wp2
       go_ret
       exact post_bad HD.out (end_bad HBK.out HB.out HG.out _)
      rw [if_neg (by omega)] at hd
      have HD := Aside0.mk hd
      have z1 : (cv == 0) = false := beq_eq_false_iff_ne.mpr hz
      clear hz
      have z2 : decide (2147483647 < nv) = false := decide_eq_false (by omega)
      clear hd hdv HN hiv
      by_cases hck : c = 5
      ·exact absurd HCC.out (by omega)
      ·have y1 : (5 : Int) ≤ (l.length : Int) := by omega
       have y2 : (l.length : Int) ≤ (c : Int) := by omega
       have y3 : (5 : Int) ≤ (c : Int) := by omega
       have HK := Aside0.mk hck
       have y4 : ((5 : Int) == (c : Int)) = false := by rw [beq_eq_false_iff_ne]; omega
       go_wp2
       go_ret
       exact post_ok HD.out (end_ok HBK.out HB.out HG.out _ HC.out HCC.out 5 (by omega) _ (by first | (rw [if_pos HK.out]; done) | (rw [if_pos HK.out]; rfl) | (rw [if_neg HK.out]; done) | (rw [if_neg HK.out]; rfl)) _ (by first | rfl | omega) _ (by first | rfl | omega))
   ·have he := HN.out
    have hi2 : i = 5 := by omega
    rw [hi2, numL_five] at he
    have HD := Aside0.mk he
    have y1 : decide (iv < 5) = false := decide_eq_false (by omega)
    clear he HN hiv HX hi2
    go_wp2
    go_ret
    exact post_bad HD.out (end_bad HBK.out HB.out HG.out _)

end Go.Proofs.YtpgfecaomdioeaaDoor.PCt
namespace Go.Proofs.YtpgfecaomdioeaaDoor.PCt
open Go.RowKit Go.Proofs.YtpgfecaomdioeaaDoor.PCt Go.Proofs.YtpgfecaomdioeaaDoorW.PrintWords Go.Proofs.YtpgfecaomdioeaaDoorW.PrintLast Go.Proofs.YtpgfecaomdioeaaDoorW.PrintMore 
set_option linter.unusedVariables false
set_option linter.unusedSimpArgs false

attribute [local go_sem] max2_int min2_int max_two min_two
theorem eqN (w : World) (a : Option Addr) (n c : Nat) : (binOp .eql 27 (.slice a n c) (.slice none 0 0)).run Tryd.prog w = .ok (.bool a.isNone) w := Lib.run_eql_slice_nil w _ _ a n c 0 0 Tryd.underlying27
attribute [local go_sem] eqN
set_option maxHeartbeats 4000000 in
set_option maxRecDepth 100000 in
theorem clone_c (A : Option Addr) (c : Nat) (l : List Int) (w : World) (hr : Kd.C (Kd.int .u8) w A l.length l) (hc : l.length ≤ c) (hl : l.length ≤ 1000000000) :
  Calls Tryd.prog 38 #[.slice A l.length c] w fun e w' => ∃ v : Value, e = .returned v ∧ Kd.R (Kd.int .u8) 5 w' w.heap.size (fun _ => True) v l ∧ Below w.heap.size w w' := by
 have HB := Aside0.mk (Below.refl w.heap.size w)
 have HR := Aside0.mk hr
 cases A with
 | none =>
  have h0 : l.length = 0 := by
   by_cases h : 0 < l.length
   ·obtain ⟨ad, e, _⟩ := hr.2.2 h
    cases e
   ·omega
  obtain rfl : l = [] := List.eq_nil_of_length_eq_zero h0
  clear hr h0
  go_enter Tryd.func38, Tryd.ntmps38
  go_wp2
  go_ret
  exact ⟨_, rfl, Kd.R_nil _ _ _ _ _, (by repeat (first | (with_reducible first | exact HB.out | apply below_alloc | apply pw_below_drewN | apply below_drew1) | exact HB.out))⟩
 | some ad =>
  clear hr
  go_enter Tryd.func38, Tryd.ntmps38
  go_wp2_with (first | ((with_reducible refine gate_dst (N := 5) rfl ?_); refine Kd.R_lit (Kd.int .u8) _ 5 ?hg (N := 5) ?hd (xs := ([] : List Int)) (inner := []) (ok := fun _ => True) (okp := fun _ => True) ?hr ?hp (fun _ hk => hk) trivial (Below.refl _ _) (Nat.le_refl _) (by simp) ?_; (case hd => rfl); (case hg => rfl); (case hr => first | (go_simp; done) | (go_simp; rfl)); (case hp => exact (Reps.none _ _)); intro v1 w1 ho1 hb1 hg_ hnew_; clear hg_ hnew_; have HO := Aside0.mk ho1; have HB1 := Aside0.mk hb1; clear ho1 hb1) | ((with_reducible refine gate_builtin (b := .append) (xs := #[.tmp 5, .tmp 6]) rfl ?_); at_builtin; refine Kd.R_append_rows (Kd.int .u8) (w0 := w) w.heap.size rfl (.tmp 5) (.tmp 6) 27 5 (.int .u8 0) 1 rfl Tryd.underlying27 info5 rfl (by decide) (by decide) v1 [] l (some ad) l.length c (fun _ => True) (fun _ => False) rfl rfl HO.out (Kd.C_below HR.out HB1.out) (fun _ _ h => h) (fun _ hk => hk.elim) (fun _ _ => trivial) HB1.out (below_size HB1.out) (by simp only [List.length_nil]; omega) ?_; intro v2 w2 ho hb hg hat; rw [List.nil_append] at ho))
  go_ret
  exact ⟨_, rfl, ho, hb⟩
def wholeB (k : Nat) (l : List Int) : Option Bool := (codec_summed.f k (l.take (l.length - 4))).bind fun t => bytes_Equal.f t l
set_option maxHeartbeats 4000000 in
set_option maxRecDepth 100000 in
theorem whole_short (A : Option Addr) (c : Nat) (l : List Int) (w : World) (h : l.length < 4) :
  Calls Tryd.prog 21 #[.slice A l.length c] w fun e w' => e = .returned (.tuple #[.slice none 0 0, .bool false]) ∧ Below w.heap.size w w' := by
 have HB := Aside0.mk (Below.refl w.heap.size w)
 have h1 : decide ((l.length : Int) < 4) = true := decide_eq_true (by omega)
 go_enter Tryd.func21, Tryd.ntmps21
 go_wp2
 go_ret2
 exact ⟨rfl, (by repeat (first | (with_reducible first | exact HB.out | apply below_alloc | apply pw_below_drewN | apply below_drew1) | exact HB.out))⟩
set_option maxHeartbeats 4000000 in
set_option maxRecDepth 100000 in
theorem whole_c (k : Nat) (A : Option Addr) (c : Nat) (l : List Int) (w : World) (b : Bool) (hr : Kd.C (Kd.int .u8) w A l.length l) (hc : l.length ≤ c) (hl : l.length ≤ 1000000000) (h : 4 ≤ l.length) (hs : wholeB k l = some b) :
  Calls Tryd.prog 21 #[.slice A l.length c] w fun e w' => e = .returned (.tuple #[.slice A (l.length - 4) c, .bool b]) ∧ Below w.heap.size w w' := by
 have HB := Aside0.mk (Below.refl w.heap.size w)
 unfold wholeB at hs
 obtain ⟨t, ht, hs⟩ := Option.bind_eq_some_iff.1 hs
 have hT := Kd.C_take (m := l.length - 4) hr (by omega)
 have hlt : (l.take (l.length - 4)).length = l.length - 4 := by rw [List.length_take]; omega
 have CC : Aside0 (∀ W', Below w.heap.size w W' → Calls Tryd.prog 38 #[.slice A (l.length - 4) c] W' fun e w' => ∃ v : Value, e = .returned v ∧ Kd.R (Kd.int .u8) 5 w' W'.heap.size (fun _ => True) v (l.take (l.length - 4)) ∧ Below W'.heap.size W' w') :=
  ⟨fun W' hb => by have := clone_c A c (l.take (l.length - 4)) W' (Kd.C_below hT hb) (by omega) (by omega); rw [hlt] at this; exact this⟩
 have CS : Aside0 (∀ W0 W' v, Below W0.heap.size W0 W' → Kd.R (Kd.int .u8) 5 W' W0.heap.size (fun _ => True) v (l.take (l.length - 4)) → Calls Tryd.prog 27 #[v] W' fun e w' => ∃ A' c', e = .returned (.slice A' t.length c') ∧ Aside0 (Kd.C (Kd.int .u8) w' A' t.length t ∧ t.length ≤ c') ∧ Below W0.heap.size W0 w') :=
  ⟨fun W0 W' v hb hR => (codec_summed.calls k _ v _ t W0 W' hb hR ht).mono (by rintro e w' ⟨v', rfl, hR', hb', _⟩; obtain ⟨A', c', rfl⟩ := Kd.R_slice hR'; exact ⟨A', c', rfl, ⟨(Kd.R_reads' hR').2.2, (Kd.R_reads' hR').2.1⟩, hb'⟩)⟩
 have CE : Aside0 (∀ W' A' c', Below w.heap.size w W' → Aside0 (Kd.C (Kd.int .u8) W' A' t.length t ∧ t.length ≤ c') → Calls Tryd.prog 23 #[.slice A' t.length c', .slice A l.length c] W' fun e w' => e = .returned (.bool b) ∧ Below W'.heap.size W' w') :=
  ⟨fun W' A' c' hb hC => (bytes_Equal.calls A' c' t A c l b W' hC.out.1 hC.out.2 (Kd.C_below hr hb) hc hs).mono (by rintro e w' ⟨rfl, n, rfl⟩; exact ⟨rfl, pw_below_drewN (Below.refl _ _) n⟩)⟩
 have h1 : decide ((l.length : Int) < 4) = false := decide_eq_false (by omega)
 obtain ⟨m, hm⟩ : ∃ m, m = l.length - 4 := ⟨_, rfl⟩
 have h2 : (l.length : Int) = (m : Int) + 4 := by omega
 rw [← hm] at CC CS ⊢
 have h3 : (0 : Int) ≤ (m : Int) := by omega
 have h4 : (m : Int) ≤ (c : Int) := by omega
 have h5 : (l.length : Int) ≤ (c : Int) := by omega
 have h6 : (l.length : Int) - 4 = (m : Int) := by omega
 clear hs ht hT hlt hr hm h2
 go_enter Tryd.func21, Tryd.ntmps21
 go_wp2
 go_region_held3 (fun w' => Below w.heap.size w w') (first | exact below_drew HB.out | exact below_step (by assumption) hb | exact hb | (repeat (first | assumption | apply below_drew))) (first | (go_at_call 38; (with_reducible refine (CC.out _ (by assumption)).mono ?_); rintro e w1 ⟨v, rfl, hRv, hb⟩) | (go_at_call 23; (with_reducible refine (CE.out _ _ _ (by assumption) hCv).mono ?_); rintro e w3 ⟨rfl, hb⟩) | (go_at_call 27; (with_reducible refine (CS.out w _ v (by assumption) (Kd.R_lower hRv (by first | (simp; done) | exact below_size (by assumption)))).mono ?_); rintro e w2 ⟨A', c', rfl, hCv, hb⟩))
 go_wp2
 go_ret2
 refine ⟨rfl, ?_⟩
 assumption

end Go.Proofs.YtpgfecaomdioeaaDoor.PCt
namespace Go.Proofs.YtpgfecaomdioeaaDoor.PCt
open Go.RowKit Go.Proofs.YtpgfecaomdioeaaDoor.PCt Go.Proofs.YtpgfecaomdioeaaDoorW.PrintWords Go.Proofs.YtpgfecaomdioeaaDoorW.PrintLast Go.Proofs.YtpgfecaomdioeaaDoorW.PrintMore 
set_option linter.unusedVariables false
set_option linter.unusedSimpArgs false

theorem infoI : (Tryd.prog.info? 3).map (fun i => (i.zero, i.size, i.bytes)) = some (some (.int .i64 0), 1, 8) := by kernel_rfl
def nV (l : List Int) : Int := match numL l 0 0 with | none => 0 | some (x, _) => x
def nR (l : List Int) : List Int := match numL l 0 0 with | none => [] | some (_, k) => l.drop k
def nB (l : List Int) (bad : Bool) : Bool := match numL l 0 0 with | none => true | some _ => bad
theorem numL_bd : ∀ (l : List Int) (i : Nat) (n : Int) (x : Int) (k : Nat), (∀ c ∈ l, 0 ≤ c ∧ c < 256) → 0 ≤ n → numL l i n = some (x, k) → 0 ≤ x ∧ x ≤ 2147483647 ∧ i < k
 | [], _, _, _, _, _, _, h => by cases h
 | c :: t, i, n, x, k, hb, hn, h => by
  have hc := hb c (List.mem_cons_self ..)
  have hm : 0 ≤ c % 128 * 128 ^ i := Int.mul_nonneg (by omega) (Int.pow_nonneg (by decide))
  simp only [numL] at h
  split at h
  ·cases h
  split at h
  ·have := numL_bd t (i + 1) _ x k (fun y hy => hb y (List.mem_cons_of_mem _ hy)) (by omega) h
   omega
  split at h
  ·cases h
  ·injection h with h
   injection h with h1 h2
   omega
theorem nV_bd (l : List Int) (hb : ∀ c ∈ l, 0 ≤ c ∧ c < 256) : 0 ≤ nV l ∧ nV l ≤ 2147483647 := by
 unfold nV
 cases h : numL l 0 0 with
 | none => decide
 | some p =>
  have := numL_bd l 0 0 p.1 p.2 hb (by omega) h
  exact ⟨this.1, this.2.1⟩
theorem nR_lt (l : List Int) (hb : ∀ c ∈ l, 0 ≤ c ∧ c < 256) (hl : 0 < l.length) : (nR l).length < l.length := by
 unfold nR
 cases h : numL l 0 0 with
 | none => simpa using hl
 | some p =>
  have := numL_bd l 0 0 p.1 p.2 hb (by omega) h
  show (l.drop p.2).length < l.length
  rw [List.length_drop]
  omega
theorem nR_le (l : List Int) : (nR l).length ≤ l.length := by
 unfold nR
 cases h : numL l 0 0 with
 | none => simp
 | some p => show (l.drop p.2).length ≤ l.length; rw [List.length_drop]; omega
theorem nR_mem (l : List Int) (c : Int) (h : c ∈ nR l) : c ∈ l := by
 unfold nR at h
 cases hn : numL l 0 0 with
 | none => rw [hn] at h; cases h
 | some p => rw [hn] at h; exact List.mem_of_mem_drop h
theorem number_s (W0 W : World) (R : Nat) (l : List Int) (bad : Bool) (hR : RdrV W0 W R l bad) (hB : Below W0.heap.size W0 W) (hg : W0.heap.size ≤ R) (hb : ∀ x ∈ l, 0 ≤ x ∧ x < 256) :
  Calls Tryd.prog 22 #[.pointer (some ⟨R, 0, none⟩)] W fun e w' => e = .returned (.int .i64 (nV l)) ∧ RdrV W0 w' R (nR l) (nB l bad) ∧ Below W0.heap.size W0 w' ∧ KeepBut W w' R none := by
 refine (number_c W0 W R l bad hR hB hg hb).mono ?_
 intro e w' h
 unfold NumPost at h
 unfold nV nR nB
 cases hn : numL l 0 0 with
 | none => rw [hn] at h; exact ⟨h.1.1, h.1.2, h.2⟩
 | some p => rw [hn] at h; exact ⟨h.1.1, h.1.2, h.2⟩
/-- What a trace's bytes come to: none: more ticks than may be. -/
def getL : Nat → List Int → Bool → List Int → Option (List Int × Bool)
 | 0, _, bad, t => some (t, bad)
 | f + 1, l, bad, t => if l.length = 0 then some (t, bad) else if nV l > 10000 - (t.length : Int) then none else
   getL f (nR (nR l)) (nB (nR l) (nB l bad)) (t ++ List.replicate (nV l).toNat (nV (nR l) - 1))
theorem R_num {W0 W w' : World} {R : Nat} {l : List Int} {bad : Bool} {v : Value} {t : List Int} (h : Kd.R (Kd.int .i64) 3 W W0.heap.size (fun _ => True) v t) (hR : RdrV W0 W R l bad) (hk : KeepBut W w' R none) : Kd.R (Kd.int .i64) 3 w' W0.heap.size (fun _ => True) v t := by
 obtain ⟨A, c, BK, _⟩ := hR
 exact Kd.R_mono (Kd.R_keep (Kd.R_types h BK (fun q hq => by simp [Kd.int, Kd.scalar] at hq; subst hq; decide)) hk (fun _ hk => hk.2)) (fun _ _ => trivial)
theorem RdrV_grown {W0 W w' : World} {R : Nat} {l : List Int} {bad : Bool} {v : Value} {t : List Int} {row : Option Nat} (hR : RdrV W0 W R l bad) (hg : W.grownBy w' row) (hne : some R ≠ row) : RdrV W0 w' R l bad := by
 obtain ⟨A, c, BK, h⟩ := hR
 exact ⟨A, c, blk_grown BK hg hne, h⟩
theorem RdrV_alloc {W0 W : World} {R : Nat} {l : List Int} {bad : Bool} (hR : RdrV W0 W R l bad) (o : Obj) : RdrV W0 (W.alloc o) R l bad := by
 obtain ⟨A, c, BK, h⟩ := hR
 exact ⟨A, c, blk_alloc BK o, h⟩
def getT (putT : List Int → List Int) (l : List Int) (wb : Bool) : Option (List Int) :=
 if l.length < 4 then none else if wb = false then none else
  match getL (l.length - 4) (l.take (l.length - 4)) false [] with
  | none => none
  | some (t, bad) => if bad = true then none else if putT t = l then some t else none
def GetPost (W : World) (r : Option (List Int)) (e : Ending) (w' : World) : Prop :=
 (match r with | none => e = .returned (.tuple #[.slice none 0 0, .int .i64 3]) | some t => ∃ v, e = .returned (.tuple #[v, .int .i64 0]) ∧ Kd.R (Kd.int .i64) 3 w' W.heap.size (fun _ => True) v t) ∧ Below W.heap.size W w'
theorem getP_none {W w' : World} {r : Option (List Int)} (h : r = none) (hb : Below W.heap.size W w') : GetPost W r (.returned (.tuple #[.slice none 0 0, .int .i64 3])) w' := by
 subst h
 exact ⟨rfl, hb⟩
set_option maxHeartbeats 4000000 in
set_option maxRecDepth 100000 in
theorem get_short (A : Option Addr) (c : Nat) (l : List Int) (W : World) (h : l.length < 4) :
  Calls Tryd.prog 7 #[.slice A l.length c] W fun e w' => e = .returned (.tuple #[.slice none 0 0, .int .i64 3]) ∧ Below W.heap.size W w' := by
 have HB := Aside0.mk (Below.refl W.heap.size W)
 have CW := Aside0.mk (whole_short A c l W h)
 go_enter Tryd.func7, Tryd.ntmps7
 go_wp2_with (first | (go_at_call 21; (with_reducible refine (CW.out).mono ?_); rintro e w7 ⟨rfl, hb⟩; have n0_ := Aside0.mk (below_step (by repeat (first | (with_reducible first | exact HB.out | apply below_alloc | apply pw_below_drewN | apply below_drew1) | exact HB.out)) hb); clear HB; have HB := n0_; clear n0_ hb))
 go_ret2
 exact ⟨rfl, (by repeat (first | (with_reducible first | exact HB.out | apply below_alloc | apply pw_below_drewN | apply below_drew1) | exact HB.out))⟩
set_option maxHeartbeats 4000000 in
set_option maxRecDepth 100000 in
theorem get_torn (k : Nat) (A : Option Addr) (c : Nat) (l : List Int) (W : World) (hr : Kd.C (Kd.int .u8) W A l.length l) (hc : l.length ≤ c) (hl : l.length ≤ 1000000) (h : 4 ≤ l.length) (hs : wholeB k l = some false) :
  Calls Tryd.prog 7 #[.slice A l.length c] W fun e w' => e = .returned (.tuple #[.slice none 0 0, .int .i64 3]) ∧ Below W.heap.size W w' := by
 have HB := Aside0.mk (Below.refl W.heap.size W)
 have CW := Aside0.mk (whole_c k A c l W false hr hc (by omega) h hs)
 clear hr hs
 go_enter Tryd.func7, Tryd.ntmps7
 go_wp2_with (first | (go_at_call 21; (with_reducible refine (CW.out).mono ?_); rintro e w7 ⟨rfl, hb⟩; have n0_ := Aside0.mk (below_step (by repeat (first | (with_reducible first | exact HB.out | apply below_alloc | apply pw_below_drewN | apply below_drew1) | exact HB.out)) hb); clear HB; have HB := n0_; clear n0_ hb))
 go_ret2
 exact ⟨rfl, (by repeat (first | (with_reducible first | exact HB.out | apply below_alloc | apply pw_below_drewN | apply below_drew1) | exact HB.out))⟩
set_option maxHeartbeats 8000000 in
set_option maxRecDepth 100000 in
theorem get_whole (k : Nat) (putT : List Int → List Int) (A : Option Addr) (c : Nat) (l : List Int) (W : World) (hr : Kd.C (Kd.int .u8) W A l.length l) (hc : l.length ≤ c) (hl : l.length ≤ 1000000) (h : 4 ≤ l.length) (hby : ∀ x ∈ l, 0 ≤ x ∧ x < 256) (hs : wholeB k l = some true)
  (hp : ∀ t, t.length ≤ 10000 → codec_PutTrace.f k t = some (putT t)) (he : ∀ t, t.length ≤ 10000 → bytes_Equal.f (putT t) l = some (decide (putT t = l))) :
  Calls Tryd.prog 7 #[.slice A l.length c] W (GetPost W (getT putT l true)) := by
 have HB := Aside0.mk (Below.refl W.heap.size W)
 have CW := Aside0.mk (whole_c k A c l W true hr hc (by omega) h hs)
 have HT := Aside0.mk (Kd.C_take (m := l.length - 4) hr (by omega))
 have HL := Aside0.mk (show (l.take (l.length - 4)).length = l.length - 4 by rw [List.length_take]; omega)
 have HY := Aside0.mk (fun x (hx : x ∈ l.take (l.length - 4)) => hby x (List.mem_of_mem_take hx))
 have HR := Aside0.mk hr
 have HP := Aside0.mk hp
 have HE := Aside0.mk he
 obtain ⟨m, hm⟩ : ∃ m, m = l.length - 4 := ⟨_, rfl⟩
 have HG : Aside0 (getT putT l true = match getL m (l.take m) false [] with | none => none | some (t, bad) => if bad = true then none else if putT t = l then some t else none) := ⟨by unfold getT; rw [if_neg (by omega), if_neg (by decide), ← hm]⟩
 rw [← hm] at CW HT HL HY
 have hmc : m ≤ c := by omega
 clear hr hs hp he hby hm
 go_enter Tryd.func7, Tryd.ntmps7
 go_wp2_with (first | (go_at_call 21; (with_reducible refine (CW.out).mono ?_); rintro e w7 ⟨rfl, hb⟩; have n0_ := Aside0.mk (below_step (by repeat (first | (with_reducible first | exact HB.out | apply below_alloc | apply pw_below_drewN | apply below_drew1) | exact HB.out)) hb); clear HB; have HB := n0_; clear n0_ hb))
 have HRd : Aside0 (RdrV W (w7.alloc (.cells #[.slice A m c, .bool false] 54)) w7.heap.size (l.take m) false) := ⟨⟨A, c, by rw [HL.out]; exact blk_new _ _, HT.out, by rw [HL.out]; exact hmc⟩⟩
 have n0_ := Aside0.mk (below_alloc HB.out (.cells #[.slice A m c, .bool false] 54))
 have hgR : W.heap.size ≤ w7.heap.size := below_size HB.out
 have hlen : (l.take m).length ≤ m := by rw [HL.out]; exact Nat.le_refl _
 clear HB
 have HB := n0_
 clear n0_
 generalize w7.heap.size = R at HRd hgR ⊢
 generalize w7.alloc (.cells #[.slice A m c, .bool false] 54) = w8 at HRd HB ⊢
 go_loopg [7] m (fun f v7 wr => ∃ (l1 : List Int) (bad : Bool) (t : List Int), Aside0 (RdrV W wr R l1 bad) ∧ Aside0 (Kd.R (Kd.int .i64) 3 wr W.heap.size (fun _ => True) v7 t) ∧ Aside0 (Below W.heap.size W wr) ∧ Aside0 (getL m (l.take m) false [] = getL f l1 bad t) ∧ Aside0 (l1.length ≤ f) ∧ Aside0 (t.length ≤ 10000) ∧ Aside0 (∀ x ∈ l1, 0 ≤ x ∧ x < 256))
 case atStart => exact ⟨_, _, [], HRd, ⟨Kd.R_nil _ _ _ _ _⟩, HB, ⟨rfl⟩, ⟨hlen⟩, ⟨by decide⟩, HY⟩
 case round =>
  clear HRd HB hlen HY
  obtain ⟨l1, bad, t, HRd, HO, HB, HF, HK, HN, HY⟩ := hrel
  obtain ⟨At, ct, rfl⟩ := Kd.R_slice HO.out
  have hN := HN.out
  obtain ⟨A1, c1, BK, hC1, hc1⟩ := HRd.out
  have hcell0 : wr.cell? ⟨R, 0, none⟩ = some (.slice A1 l1.length c1) := (blk_cell BK 0).trans rfl
  have hcell1 : wr.cell? ⟨R, 1, none⟩ = some (.bool bad) := (blk_cell BK 1).trans rfl
  clear BK hC1 hc1
  by_cases h0 : l1.length = 0
  ·have hz : decide (0 < (l1.length : Int)) = false := decide_eq_false (by omega)
   have hz2 : decide (0 < l1.length) = false := decide_eq_false (by omega)
   have hz3 : l1 = [] := List.eq_nil_of_length_eq_zero h0
   subst hz3
   have HF2 : Aside0 (getL m (l.take m) false [] = some (t, bad)) := ⟨by rw [HF.out]; cases gk with | zero => rfl | succ f => simp only [getL]; rw [if_pos h0]⟩
   clear h0
   cases bad with
   | true =>
    go_wp2
    go_ret2
    exact getP_none (by rw [HG.out, HF2.out]; rfl) HB.out
   | false =>
    have HPt := HP.out t HN.out
    have HEt := HE.out t HN.out
    have CP : Aside0 (∀ W', Below W.heap.size W W' → Kd.C (Kd.int .i64) W' At t.length t → Calls Tryd.prog 10 #[.slice At t.length ct] W' fun e w' => ∃ A' c', e = .returned (.slice A' (putT t).length c') ∧ Aside0 (Kd.C (Kd.int .u8) w' A' (putT t).length (putT t) ∧ (putT t).length ≤ c') ∧ Below W'.heap.size W' w') :=
     ⟨fun W' hb hC => (codec_PutTrace.calls k At ct t _ W' hC (Kd.R_reads' HO.out).2.1 HPt).mono (by rintro e w' ⟨v', rfl, hR', hb'⟩; obtain ⟨A', c', rfl⟩ := Kd.R_slice hR'; exact ⟨A', c', rfl, ⟨(Kd.R_reads' hR').2.2, (Kd.R_reads' hR').2.1⟩, hb'⟩)⟩
    have CE : Aside0 (∀ W' A' c', Below W.heap.size W W' → Aside0 (Kd.C (Kd.int .u8) W' A' (putT t).length (putT t) ∧ (putT t).length ≤ c') → Calls Tryd.prog 23 #[.slice A' (putT t).length c', .slice A l.length c] W' fun e w' => e = .returned (.bool (decide (putT t = l))) ∧ Below W'.heap.size W' w') :=
     ⟨fun W' A' c' hb hC => (bytes_Equal.calls A' c' (putT t) A c l _ W' hC.out.1 hC.out.2 (Kd.C_below HR.out hb) hc HEt).mono (by rintro e w' ⟨rfl, n, rfl⟩; exact ⟨rfl, pw_below_drewN (Below.refl _ _) n⟩)⟩
    clear HPt HEt
    by_cases hq : putT t = l
    ·rw [decide_eq_true hq] at CE
     have HQ := Aside0.mk hq
     clear hq
     go_wp2_with (first | (go_at_call 10; (with_reducible refine (CP.out _ HB.out (Kd.R_reads' HO.out).2.2).mono ?_); rintro e w9 ⟨A', c', rfl, hCv, hb⟩; have n0_ := Aside0.mk (below_step HB.out hb); have n1_ := Aside0.mk (Kd.R_below HO.out hb); clear HB HO; have HB := n0_; have HO := n1_; clear n0_ n1_ hb) | (go_at_call 23; (with_reducible refine (CE.out _ _ _ HB.out hCv).mono ?_); rintro e w10 ⟨rfl, hb⟩; have n0_ := Aside0.mk (below_step HB.out hb); have n1_ := Aside0.mk (Kd.R_below HO.out hb); clear HB HO; have HB := n0_; have HO := n1_; clear n0_ n1_ hb))
     go_ret2
     refine ⟨?_, HB.out⟩
     rw [HG.out, HF2.out]
     show (match (if putT t = l then some t else none) with | none => _ | some t => _)
     rw [if_pos HQ.out]
     exact ⟨_, rfl, HO.out⟩
    ·rw [decide_eq_false hq] at CE
     have HQ := Aside0.mk hq
     clear hq
     go_wp2_with (first | (go_at_call 10; (with_reducible refine (CP.out _ HB.out (Kd.R_reads' HO.out).2.2).mono ?_); rintro e w9 ⟨A', c', rfl, hCv, hb⟩; have n0_ := Aside0.mk (below_step HB.out hb); clear HB; have HB := n0_; clear n0_ hb) | (go_at_call 23; (with_reducible refine (CE.out _ _ _ HB.out hCv).mono ?_); rintro e w10 ⟨rfl, hb⟩; have n0_ := Aside0.mk (below_step HB.out hb); clear HB; have HB := n0_; clear n0_ hb))
     go_ret2
     exact getP_none (by rw [HG.out, HF2.out]; show (if putT t = l then some t else none) = none; rw [if_neg HQ.out]) HB.out
  ·obtain ⟨f, rfl⟩ : ∃ f, gk = f + 1 := ⟨gk - 1, by have := HK.out; omega⟩
   have hz : decide (0 < (l1.length : Int)) = true := decide_eq_true (by omega)
   have hz2 : decide (0 < l1.length) = true := decide_eq_true (by omega)
   have hz3 : 0 < l1.length := by omega
   have b1 := nV_bd l1 HY.out
   have b2 := nV_bd (nR l1) (fun x hx => HY.out x (nR_mem _ x hx))
   have H0' := Aside0.mk hz3
   have HY0 := HY
   have hF := HF.out
   simp only [getL] at hF
   rw [if_neg h0] at hF
   clear h0 HF
   by_cases hbig : nV l1 > 10000 - (t.length : Int)
   ·rw [if_pos hbig] at hF
    have HF := Aside0.mk hF
    have hq : decide (10000 - (t.length : Int) < nV l1) = true := decide_eq_true (by omega)
    clear hF hbig
    go_wp2_with (first | (go_at_call 22; (with_reducible refine (number_s W _ R _ _ HRd.out HB.out hgR HY.out).mono ?_); rintro e w9 ⟨rfl, hRd, hB, hK⟩; have n0_ := Aside0.mk hRd; have n1_ := Aside0.mk hB; have n2_ := Aside0.mk (R_num HO.out HRd.out hK); have n3_ := Aside0.mk (fun x (hx : x ∈ nR _) => HY.out x (nR_mem _ x hx)); clear HRd HB HO HY; have HRd := n0_; have HB := n1_; have HO := n2_; have HY := n3_; clear n0_ n1_ n2_ n3_ hRd hB hK))
    go_ret2
    exact getP_none (by rw [HG.out, HF.out]) HB.out
   ·rw [if_neg hbig] at hF
    have HF := Aside0.mk hF
    have hq : decide (10000 - (t.length : Int) < nV l1) = false := decide_eq_false (by omega)
    have HBig := Aside0.mk hbig
    clear hF hbig
    go_wp2_with (first | (go_at_call 22; (with_reducible refine (number_s W _ R _ _ HRd.out HB.out hgR HY.out).mono ?_); rintro e w9 ⟨rfl, hRd, hB, hK⟩; have n0_ := Aside0.mk hRd; have n1_ := Aside0.mk hB; have n2_ := Aside0.mk (R_num HO.out HRd.out hK); have n3_ := Aside0.mk (fun x (hx : x ∈ nR _) => HY.out x (nR_mem _ x hx)); clear HRd HB HO HY; have HRd := n0_; have HB := n1_; have HO := n2_; have HY := n3_; clear n0_ n1_ n2_ n3_ hRd hB hK))
    have HRd2 := HRd
    go_loopw [7, 37] (fun v7 v37 wr => ∃ (j : Nat), v37 = .int .i64 j ∧ (j : Int) ≤ nV l1 ∧ Aside0 (RdrV W wr R (nR (nR l1)) (nB (nR l1) (nB l1 bad))) ∧ Aside0 (Kd.R (Kd.int .i64) 3 wr W.heap.size (fun _ => True) v7 (t ++ List.replicate j (nV (nR l1) - 1))) ∧ Aside0 (Below W.heap.size W wr)) (fun _ v37 _ => (nV l1).toNat - (intOf v37).toNat)
    case atStart => exact ⟨0, rfl, by omega, HRd, ⟨by rw [List.replicate_zero, List.append_nil]; exact HO.out⟩, HB⟩
    case round =>
     clear HRd HRd2 HO HB
     obtain ⟨j, rfl, hj, HRd, HO, HB⟩ := hrel
     by_cases hjl : (j : Int) < nV l1
     ·have hjd : decide ((j : Int) < nV l1) = true := decide_eq_true hjl
      obtain ⟨q, hqq⟩ : ∃ q, q = t ++ List.replicate j (nV (nR l1) - 1) := ⟨_, rfl⟩
      rw [← hqq] at HO
      have HQ := Aside0.mk hqq
      clear hqq
      obtain ⟨Av, cv, rfl⟩ := Kd.R_slice HO.out
      have HNe := Aside0.mk (show some R ≠ (Value.slice Av q.length cv).ownBlock from by obtain ⟨_, _, BK, _⟩ := HRd.out; exact Kd.R_ne HO.out BK (by decide))
      have HLn := Aside0.mk (show q.length ≤ 10000 by rw [HQ.out, List.length_append, List.length_replicate]; have := HBig.out; omega)
      go_wp2_with (first | ((with_reducible refine gate_builtin (b := .append) (xs := #[.tmp 39, .tmp 41]) rfl ?_); at_builtin; refine Kd.R_append (Kd.int .i64) (w0 := W) W.heap.size rfl (.tmp 39) (.tmp 41) 23 3 (.int .i64 0) 8 rfl Tryd.underlying23 infoI rfl (by decide) (by omega) (.slice Av q.length cv) q (nV (nR l1) - 1) [.int .i64 (nV (nR l1) - 1)] (fun _ => True) (fun _ => False) rfl rfl ?aP (fun _ hk => hk.elim) ?aF ?aO ?aB ?aS ?aL ?_; (case aP => exact rfl); (case aF => exact (fun _ _ => trivial)); (case aO => exact (by (with_reducible repeat (first | apply Kd.R_alloc | apply Kd.R_drewN | apply Kd.R_drew)); exact HO.out)); (case aB => exact (by repeat (first | (with_reducible first | exact HB.out | apply below_alloc | apply pw_below_drewN | apply below_drew1) | exact HB.out))); (case aS => exact (below_size (by repeat (first | (with_reducible first | exact HB.out | apply below_alloc | apply pw_below_drewN | apply below_drew1) | exact HB.out)))); (case aL => have := HLn.out; omega); intro v1 w1 ho hb hg hat; have HO2 := Aside0.mk ho; have HB2 := Aside0.mk hb; have HRd3 := Aside0.mk (RdrV_grown (v := .slice none 0 0) (t := []) HRd.out hg HNe.out); clear ho hb hg hat))
      exact ⟨⟨j + 1, by go_num, by omega, HRd3, ⟨by rw [List.replicate_succ', ← List.append_assoc, ← HQ.out]; exact HO2.out⟩, HB2⟩, by simp [intOf]; omega⟩
     ·have hjd : decide ((j : Int) < nV l1) = false := decide_eq_false hjl
      go_wp2
      go_roundg f
      case measure => omega
      case rel => exact ⟨_, _, _, HRd, HO, HB, ⟨by rw [HF.out, show (nV l1).toNat = j by omega]⟩, ⟨by have h1 := nR_lt l1 HY0.out H0'.out; have h2 := nR_le (nR l1); have := HK.out; omega⟩, ⟨by rw [List.length_append, List.length_replicate]; have := HBig.out; omega⟩, HY⟩

end Go.Proofs.YtpgfecaomdioeaaDoor.PCt
namespace Go.Proofs.YtpgfecaomdioeaaDoor.PCt
open Go.RowKit Go.Proofs.YtpgfecaomdioeaaDoor.PCt Go.Proofs.YtpgfecaomdioeaaDoorW.PrintWords Go.Proofs.YtpgfecaomdioeaaDoorW.PrintLast Go.Proofs.YtpgfecaomdioeaaDoorW.PrintMore 
set_option linter.unusedVariables false
set_option linter.unusedSimpArgs false

theorem w64 (x : Int) (h0 : -9223372036854775808 ≤ x) (h1 : x ≤ 9223372036854775807) : wrap64 x = x := by unfold wrap64; omega
theorem rd_at (t : List Int) (p : Nat) (h : p < t.length) : t.drop p = rd t (p : Int) :: t.drop (p + 1) := by
 rw [List.drop_eq_getElem_cons h]
 unfold rd
 rw [show ((p : Int).toNat) = p by omega, List.getD_eq_getElem?_getD, List.getElem?_eq_getElem h]
 rfl
def isB (l : List Int) : Prop := ∀ x ∈ l, 0 ≤ x ∧ x < 256
theorem isB_app {a b : List Int} (ha : isB a) (hb : isB b) : isB (a ++ b) := by
 intro x hx
 rcases List.mem_append.1 hx with h | h
 ·exact ha x h
 ·exact hb x h
-- a number's bytes
def encN (n : Nat) : List Int := if h : n < 128 then [(n : Int)] else (128 + (n % 128 : Nat) : Int) :: encN (n / 128)
termination_by n
decreasing_by omega
theorem encN_small (n : Nat) (h : n < 128) : encN n = [(n : Int)] := by rw [encN]; simp [h]
theorem encN_big (n : Nat) (h : ¬ n < 128) : encN n = (128 + (n % 128 : Nat) : Int) :: encN (n / 128) := by rw [encN]; simp [h]
theorem bit_or : ∀ c : Nat, c < 256 → Go.bits .or .u8 (c : Int) 128 = 128 + ((c % 128 : Nat) : Int) := by
 intro c h
 have : ∀ m : Fin 256, Go.bits .or .u8 ((m.val : Nat) : Int) 128 = 128 + ((m.val % 128 : Nat) : Int) := by decide +kernel
 exact this ⟨c, h⟩
theorem number_l0 : ∀ (d n k : Nat) (l : List Int), n < 128 ^ (d + 1) → d < k → l.length + d < 1000000000 → codec_number.l0 k l n = some (l ++ encN n) := by
 intro d
 induction d with
 | zero =>
  intro n k l hn hk hl
  obtain ⟨k, rfl⟩ : ∃ k', k = k' + 1 := ⟨k - 1, by omega⟩
  unfold codec_number.l0
  rw [if_neg (by omega), if_pos (by omega), encN_small n (by omega)]
  congr 3
  omega
 | succ d ih =>
  intro n k l hn hk hl
  obtain ⟨k, rfl⟩ : ∃ k', k = k' + 1 := ⟨k - 1, by omega⟩
  unfold codec_number.l0
  by_cases h : n < 128
  ·rw [if_neg (by omega), if_pos (by omega), encN_small n h]
   congr 3
   omega
  ·rw [if_pos (by omega), if_pos (by omega), encN_big n h, show ((n : Int) % 256) = ((n % 256 : Nat) : Int) by omega, bit_or _ (by omega), show ((n : Int) / 128) = ((n / 128 : Nat) : Int) by omega]
   rw [ih (n / 128) k _ (by rw [Nat.div_lt_iff_lt_mul (by decide)]; exact hn) (by omega) (by rw [List.length_append]; simp only [List.length_cons, List.length_nil]; omega), List.append_assoc]
   congr 3
   rw [show n % 256 % 128 = n % 128 by omega]
   rfl
theorem number_is (k n : Nat) (l : List Int) (hn : n < 268435456) (hk : 5 ≤ k) (hl : l.length < 900000000) : codec_number.f k l n = some (l ++ encN n) :=
 number_l0 3 n k l (by omega) (by omega) (by omega)
theorem encN_len (n : Nat) (hn : n < 16384) : (encN n).length ≤ 2 ∧ 1 ≤ (encN n).length := by
 by_cases h : n < 128
 ·rw [encN_small n h]; simp
 ·rw [encN_big n h, encN_small (n / 128) (by omega)]; simp
theorem encN_B (n : Nat) : isB (encN n) := by
 induction n using Nat.strongRecOn with
 | _ n ih =>
  by_cases h : n < 128
  ·rw [encN_small n h]
   intro x hx
   simp at hx
   omega
  ·rw [encN_big n h]
   intro x hx
   rcases List.mem_cons.1 hx with rfl | hx
   ·omega
   ·exact ih (n / 128) (by omega) x hx
theorem numL_enc (n : Nat) (hn : n < 16384) (r : List Int) : numL (encN n ++ r) 0 0 = some ((n : Int), (encN n).length) := by
 by_cases h : n < 128
 ·rw [encN_small n h]
  simp only [List.cons_append, List.nil_append, numL]
  rw [if_neg (by omega), if_neg (by omega), if_neg (by omega)]
  simp
  omega
 ·rw [encN_big n h, encN_small (n / 128) (by omega)]
  simp only [List.cons_append, List.nil_append, numL]
  rw [if_neg (by omega), if_pos (by omega), if_neg (by omega), if_neg (by omega), if_neg (by omega)]
  simp
  omega
theorem nV_enc (n : Nat) (hn : n < 16384) (r : List Int) : nV (encN n ++ r) = n := by unfold nV; rw [numL_enc n hn]
theorem nR_enc (n : Nat) (hn : n < 16384) (r : List Int) : nR (encN n ++ r) = r := by
 unfold nR
 rw [numL_enc n hn]
 simp
theorem nB_enc (n : Nat) (hn : n < 16384) (r : List Int) (b : Bool) : nB (encN n ++ r) b = b := by unfold nB; rw [numL_enc n hn]
-- sums
def sumL : List Int → Int → Int → Int
 | [], x, y => (((y * 65536) % 4294967296) + x) % 4294967296
 | c :: t, x, y => sumL t (((x + (c % 4294967296)) % 4294967296) % 65535) (((y + (((x + (c % 4294967296)) % 4294967296) % 65535)) % 4294967296) % 65535)
theorem Sum_l0 (l : List Int) (hl : l.length ≤ 1000000000) : ∀ d p k x y, p + d = l.length → d < k → codec_Sum.l0 k x y l l.length p = some (sumL (l.drop p) x y) := by
 intro d
 induction d with
 | zero =>
  intro p k x y hp hk
  obtain ⟨k, rfl⟩ : ∃ k', k = k' + 1 := ⟨k - 1, by omega⟩
  unfold codec_Sum.l0
  rw [if_neg (by omega), List.drop_of_length_le (by omega)]
  rfl
 | succ d ih =>
  intro p k x y hp hk
  obtain ⟨k, rfl⟩ : ∃ k', k = k' + 1 := ⟨k - 1, by omega⟩
  unfold codec_Sum.l0
  rw [rd_at l p (by omega), if_pos (by omega), if_pos (by omega), if_pos (by omega), w64 ((p : Int) + 1) (by omega) (by omega), show (p : Int) + 1 = ((p + 1 : Nat) : Int) by omega]
  exact ih (p + 1) k _ _ (by omega) (by omega)
theorem Sum_is (l : List Int) (hl : l.length ≤ 1000000000) (k : Nat) (hk : l.length < k) : codec_Sum.f k l = some (sumL l 0 0) := by
 have := Sum_l0 l hl l.length 0 k 0 0 (by omega) hk
 rw [List.drop_zero] at this
 exact this
def sum4 (s : Int) : List Int := [s % 256, (s / 256) % 256, (s / 65536) % 256, (s / 16777216) % 256]
def summedL (l : List Int) : List Int := l ++ sum4 (sumL l 0 0)
theorem summed_is (l : List Int) (hl : l.length ≤ 1000000) (k : Nat) (hk : l.length < k) : codec_summed.f k l = some (summedL l) := by
 unfold codec_summed.f summedL
 rw [Sum_is l (by omega) k hk, Option.bind_some, Option.bind_some, if_pos (by simp only [List.length_cons, List.length_nil]; omega)]
 rfl
theorem summed_len (l : List Int) : (summedL l).length = l.length + 4 := by unfold summedL sum4; simp
theorem summed_inj {a b : List Int} (h : summedL a = summedL b) : a = b := by
 have hl := congrArg List.length h
 rw [summed_len, summed_len] at hl
 unfold summedL at h
 exact (List.append_inj h (by omega)).1
theorem summed_B {l : List Int} (h : isB l) : isB (summedL l) := by
 refine isB_app h ?_
 unfold sum4
 intro x hx
 simp only [List.mem_cons, List.not_mem_nil, or_false] at hx
 omega
-- a trace's bytes
def runL (v : Int) : List Int → Nat
 | [] => 0
 | x :: t => if x = v then runL v t + 1 else 0
theorem runL_le (v : Int) : ∀ t : List Int, runL v t ≤ t.length
 | [] => Nat.le_refl _
 | x :: t => by
  simp only [runL, List.length_cons]
  split
  ·have := runL_le v t; omega
  ·omega
theorem runL_take (v : Int) : ∀ t : List Int, t = List.replicate (runL v t) v ++ t.drop (runL v t)
 | [] => rfl
 | x :: t => by
  simp only [runL]
  split
  ·rename_i h
   rw [List.replicate_succ, List.cons_append, List.drop_succ_cons, ← runL_take v t, h]
  ·simp
def body : Nat → List Int → List Int
 | 0, _ => []
 | _ + 1, [] => []
 | f + 1, v :: t => encN (runL v t + 1) ++ (encN (v + 1).toNat ++ body f (t.drop (runL v t)))
def mayT (t : List Int) : Bool := t.all (fun x => decide (-1 ≤ x ∧ x < 200)) && decide (t.length ≤ 10000)
def putT (t : List Int) : List Int := if mayT t = true then summedL (body t.length t) else []
theorem mayTrace_l0 (t : List Int) (hb : t.length ≤ 1000000) : ∀ d p k, p + d = t.length → d < k → codec_mayTrace.l0 k t t t.length p = some ((t.drop p).all (fun x => decide (-1 ≤ x ∧ x < 200)) && decide (t.length ≤ 10000)) := by
 intro d
 induction d with
 | zero =>
  intro p k hp hk
  obtain ⟨k, rfl⟩ : ∃ k', k = k' + 1 := ⟨k - 1, by omega⟩
  unfold codec_mayTrace.l0
  rw [if_neg (by omega), List.drop_of_length_le (by omega), List.all_nil, Bool.true_and]
  congr 1
  rw [decide_eq_decide]
  omega
 | succ d ih =>
  intro p k hp hk
  obtain ⟨k, rfl⟩ : ∃ k', k = k' + 1 := ⟨k - 1, by omega⟩
  unfold codec_mayTrace.l0
  rw [rd_at t p (by omega), if_pos (by omega), if_pos (by omega), if_pos (by omega), w64 ((p : Int) + 1) (by omega) (by omega), show (p : Int) + 1 = ((p + 1 : Nat) : Int) by omega, List.all_cons]
  by_cases c1 : rd t (p : Int) < -1
  ·rw [if_pos c1, decide_eq_false (by omega)]; rfl
  rw [if_neg c1]
  by_cases c2 : rd t (p : Int) ≥ 200
  ·rw [if_pos c2, decide_eq_false (by omega)]; rfl
  rw [if_neg c2, decide_eq_true (by omega), Bool.true_and]
  exact ih (p + 1) k (by omega) (by omega)
theorem mayTrace_is (t : List Int) (hb : t.length ≤ 1000000) (k : Nat) (hk : t.length < k) : codec_mayTrace.f k t = some (mayT t) := by
 have := mayTrace_l0 t hb t.length 0 k (by omega) hk
 rw [List.drop_zero] at this
 exact this
theorem l1_is (t : List Int) (ht : t.length ≤ 10000) (b : List Int) (hb : b.length ≤ 100000) (p : Nat) (hp : p < t.length) (v : Int) (hv : rd t (p : Int) = v) (h0 : -1 ≤ v) (h1 : v < 200) (k : Nat) (hk : 5 ≤ k) : ∀ d q, q + d = t.length → p ≤ q →
  codec_PutTrace.l1 (k + runL v (t.drop q) + 1) t b p q = codec_PutTrace.l0 k t (b ++ encN (q + runL v (t.drop q) - p) ++ encN (v + 1).toNat) ((q + runL v (t.drop q) : Nat) : Int) := by
 have fin : ∀ q : Nat, q ≤ t.length → p ≤ q → (codec_number.f k b (wrap64 ((q : Int) - (p : Int)))) = some (b ++ encN (q - p)) ∧ codec_number.f k (b ++ encN (q - p)) (wrap64 (v + 1)) = some (b ++ encN (q - p) ++ encN (v + 1).toNat) := by
  intro q hq hpq
  have hl := encN_len (q - p) (by omega)
  rw [w64 _ (by omega) (by omega), w64 _ (by omega) (by omega), show (q : Int) - (p : Int) = ((q - p : Nat) : Int) by omega]
  refine ⟨number_is k _ b (by omega) hk (by omega), ?_⟩
  have := number_is k (v + 1).toNat (b ++ encN (q - p)) (by omega) hk (by rw [List.length_append]; omega)
  rw [show (((v + 1).toNat : Nat) : Int) = v + 1 by omega] at this
  exact this
 intro d
 induction d with
 | zero =>
  intro q hq hpq
  rw [List.drop_of_length_le (by omega)]
  simp only [runL, Nat.add_zero]
  unfold codec_PutTrace.l1
  rw [if_neg (by omega), (fin q (by omega) hpq).1, Option.bind_some, if_pos (by omega), if_pos (by omega), hv, (fin q (by omega) hpq).2, Option.bind_some]
 | succ d ih =>
  intro q hq hpq
  rw [rd_at t q (by omega)]
  simp only [runL]
  unfold codec_PutTrace.l1
  rw [if_pos (by omega), if_pos (by omega), if_pos (by omega), if_pos (by omega), hv]
  by_cases c : rd t (q : Int) = v
  ·rw [if_pos c, if_pos c, w64 ((q : Int) + 1) (by omega) (by omega), show (q : Int) + 1 = ((q + 1 : Nat) : Int) by omega]
   have := ih (q + 1) (by omega) (by omega)
   rw [show q + 1 + runL v (t.drop (q + 1)) = q + (runL v (t.drop (q + 1)) + 1) by omega] at this
   rw [show k + (runL v (t.drop (q + 1)) + 1) = k + runL v (t.drop (q + 1)) + 1 by omega]
   exact this
  ·rw [if_neg c, if_neg c]
   simp only [Nat.add_zero]
   rw [(fin q (by omega) hpq).1, Option.bind_some, (fin q (by omega) hpq).2, Option.bind_some]
theorem body_step (f : Nat) (v : Int) (t : List Int) : body (f + 1) (v :: t) = encN (runL v t + 1) ++ (encN (v + 1).toNat ++ body f (t.drop (runL v t))) := rfl
theorem l0_is (t : List Int) (ht : t.length ≤ 10000) (hv : ∀ x ∈ t, -1 ≤ x ∧ x < 200) : ∀ f p k (b : List Int), t.length - p ≤ f → p ≤ t.length → b.length ≤ 4 * p → 50000 + 3 * (t.length - p) ≤ k →
  codec_PutTrace.l0 k t b p = some (summedL (b ++ body f (t.drop p))) := by
 intro f
 induction f with
 | zero =>
  intro p k b hf hp hb hk
  obtain ⟨k, rfl⟩ : ∃ k', k = k' + 1 := ⟨k - 1, by omega⟩
  unfold codec_PutTrace.l0
  rw [if_neg (by omega), summed_is b (by omega) k (by omega), Option.bind_some]
  simp [body]
 | succ f ih =>
  intro p k b hf hp hb hk
  obtain ⟨k, rfl⟩ : ∃ k', k = k' + 1 := ⟨k - 1, by omega⟩
  unfold codec_PutTrace.l0
  by_cases c : p < t.length
  ·rw [if_pos (by omega)]
   have hm := hv (rd t (p : Int)) (by unfold rd; rw [List.getD_eq_getElem?_getD, List.getElem?_eq_getElem (by omega)]; exact List.getElem_mem _)
   have hr := runL_le (rd t (p : Int)) (t.drop p)
   rw [List.length_drop] at hr
   have hl1 := l1_is t ht b (by omega) p c _ rfl hm.1 hm.2 (k - runL (rd t (p : Int)) (t.drop p) - 1) (by omega) (t.length - p) p (by omega) (Nat.le_refl _)
   rw [show k - runL (rd t (p : Int)) (t.drop p) - 1 + runL (rd t (p : Int)) (t.drop p) + 1 = k by omega] at hl1
   rw [hl1]
   rw [rd_at t p c] at hr ⊢
   simp only [runL, if_true] at hr ⊢
   have e1 := encN_len (p + (runL (rd t (p : Int)) (t.drop (p + 1)) + 1) - p) (by omega)
   have e2 := encN_len (rd t (p : Int) + 1).toNat (by omega)
   rw [ih _ _ _ (by omega) (by omega) (by simp only [List.length_append]; omega) (by omega), body_step, List.drop_drop]
   rw [show p + (runL (rd t (p : Int)) (t.drop (p + 1)) + 1) - p = runL (rd t (p : Int)) (t.drop (p + 1)) + 1 by omega, List.append_assoc, List.append_assoc]
   rw [show p + (runL (rd t (p : Int)) (t.drop (p + 1)) + 1) = p + 1 + runL (rd t (p : Int)) (t.drop (p + 1)) by omega]
  ·rw [if_neg (by omega), summed_is b (by omega) k (by omega), Option.bind_some, List.drop_of_length_le (by omega)]
   simp [body]
theorem mayT_all {t : List Int} (h : mayT t = true) : (∀ x ∈ t, -1 ≤ x ∧ x < 200) ∧ t.length ≤ 10000 := by
 unfold mayT at h
 rw [Bool.and_eq_true, List.all_eq_true, decide_eq_true_iff] at h
 exact ⟨fun x hx => of_decide_eq_true (h.1 x hx), h.2⟩
theorem PutTrace_is (t : List Int) (ht : t.length ≤ 10000) (k : Nat) (hk : 100000 ≤ k) : codec_PutTrace.f k t = some (putT t) := by
 unfold codec_PutTrace.f putT
 rw [mayTrace_is t (by omega) k (by omega), Option.bind_some]
 by_cases h : mayT t = true
 ·rw [if_pos h, if_pos h]
  have := l0_is t ht (mayT_all h).1 t.length 0 k [] (by omega) (by omega) (by simp) (by omega)
  rw [List.drop_zero, List.nil_append, Int.natCast_zero] at this
  exact this
 ·rw [if_neg h, if_neg h]
theorem body_B : ∀ f t, isB (body f t)
 | 0, _ => fun _ hx => by cases hx
 | f + 1, [] => fun _ hx => by cases hx
 | f + 1, v :: t => by
  rw [body_step]
  exact isB_app (encN_B _) (isB_app (encN_B _) (body_B f _))
theorem body_len : ∀ f (t : List Int), (∀ x ∈ t, -1 ≤ x ∧ x < 200) → t.length ≤ 10000 → (body f t).length ≤ 4 * t.length
 | 0, _, _, _ => by simp [body]
 | f + 1, [], _, _ => by simp [body]
 | f + 1, v :: t, hv, hl => by
  rw [body_step]
  have hr := runL_le v t
  simp only [List.length_cons] at hl
  have e1 := encN_len (runL v t + 1) (by omega)
  have hv0 := hv v (List.mem_cons_self ..)
  have e2 := encN_len (v + 1).toNat (by omega)
  have := body_len f (t.drop (runL v t)) (fun x hx => hv x (List.mem_cons_of_mem _ (List.mem_of_mem_drop hx))) (by rw [List.length_drop]; omega)
  rw [List.length_drop] at this
  simp only [List.length_append, List.length_cons]
  omega
theorem putT_B (t : List Int) : isB (putT t) := by
 unfold putT
 split
 ·exact summed_B (body_B _ _)
 ·exact fun _ hx => by cases hx
theorem putT_len (t : List Int) : (putT t).length ≤ 40004 := by
 unfold putT
 split
 ·rename_i h
  have := body_len t.length t (mayT_all h).1 (mayT_all h).2
  have := (mayT_all h).2
  rw [summed_len]
  omega
 ·simp
/-- What is written is read again. -/
theorem getL_body : ∀ (f : Nat) (t u : List Int) (g : Nat), t.length ≤ f → (∀ x ∈ t, -1 ≤ x ∧ x < 200) → u.length + t.length ≤ 10000 → (body f t).length ≤ g → getL g (body f t) false u = some (u ++ t, false)
 | f, [], u, g, _, _, _, _ => by
  have : body f [] = [] := by cases f <;> rfl
  rw [this]
  cases g with
  | zero => simp [getL]
  | succ g => simp [getL]
 | 0, _ :: _, _, _, h, _, _, _ => by simp at h
 | f + 1, v :: t, u, g, hf, hv, hl, hg => by
  have hr := runL_le v t
  have hv0 := hv v (List.mem_cons_self ..)
  simp only [List.length_cons] at hf hl
  have e1 := encN_len (runL v t + 1) (by omega)
  rw [body_step] at hg ⊢
  simp only [List.length_append] at hg
  obtain ⟨g, rfl⟩ : ∃ g', g = g' + 1 := ⟨g - 1, by omega⟩
  simp only [getL]
  rw [if_neg (by simp only [List.length_append]; omega), nV_enc _ (by omega), nR_enc _ (by omega), nB_enc _ (by omega), nV_enc _ (by omega), nR_enc _ (by omega), nB_enc _ (by omega), if_neg (by omega)]
  rw [getL_body f _ _ g (by rw [List.length_drop]; omega) (fun x hx => hv x (List.mem_cons_of_mem _ (List.mem_of_mem_drop hx))) (by simp only [List.length_append, List.length_replicate, List.length_drop]; omega) (by omega)]
  rw [show ((runL v t + 1 : Nat) : Int).toNat = runL v t + 1 by omega, show (((v + 1).toNat : Nat) : Int) - 1 = v by omega, List.replicate_succ, List.append_assoc, List.cons_append, ← runL_take v t]
theorem putT_inj {a b : List Int} (ha : mayT a = true) (hb : mayT b = true) (h : putT a = putT b) : a = b := by
 unfold putT at h
 rw [if_pos ha, if_pos hb] at h
 have h := summed_inj h
 have ga := getL_body a.length a [] ((body a.length a).length + (body b.length b).length) (Nat.le_refl _) (mayT_all ha).1 (by have := (mayT_all ha).2; simpa using this) (by omega)
 have gb := getL_body b.length b [] ((body a.length a).length + (body b.length b).length) (Nat.le_refl _) (mayT_all hb).1 (by have := (mayT_all hb).2; simpa using this) (by omega)
 rw [h] at ga gb
 rw [gb] at ga
 simpa using ga.symm
theorem map_inj : ∀ (a b : List Int), isB a → isB b → a.map (fun n => UInt8.ofNat n.toNat) = b.map (fun n => UInt8.ofNat n.toNat) → a = b
 | [], [], _, _, _ => rfl
 | [], _ :: _, _, _, h => by simp at h
 | _ :: _, [], _, _, h => by simp at h
 | x :: a, y :: b, ha, hb, h => by
  simp only [List.map_cons, List.cons.injEq] at h
  have hx := ha x (List.mem_cons_self ..)
  have hy := hb y (List.mem_cons_self ..)
  have e : x = y := by
   have := congrArg UInt8.toNat h.1
   simp only [UInt8.toNat_ofNat'] at this
   omega
  rw [e, map_inj a b (fun z hz => ha z (List.mem_cons_of_mem _ hz)) (fun z hz => hb z (List.mem_cons_of_mem _ hz)) h.2]
theorem strOf_inj {a b : List Int} (ha : isB a) (hb : isB b) : ((strOfNums a).toList == (strOfNums b).toList) = decide (a = b) := by
 rw [Bool.eq_iff_iff, beq_iff_eq, decide_eq_true_iff, Lib.toList_data, Lib.toList_data, strOfNums_data, strOfNums_data]
 exact ⟨map_inj a b ha hb, fun h => by rw [h]⟩
theorem Equal_is {a b : List Int} (ha : isB a) (hb : isB b) : bytes_Equal.f a b = some (decide (a = b)) := by
 unfold bytes_Equal.f
 rw [strOf_inj ha hb]
def wbT (l : List Int) : Bool := decide (summedL (l.take (l.length - 4)) = l)
theorem isB_take {l : List Int} (h : isB l) (n : Nat) : isB (l.take n) := fun x hx => h x (List.mem_of_mem_take hx)
theorem wholeB_is (l : List Int) (hb : isB l) (hl : l.length ≤ 1000000) (k : Nat) (hk : 1000001 ≤ k) : wholeB k l = some (wbT l) := by
 unfold wholeB wbT
 rw [summed_is _ (by rw [List.length_take]; omega) k (by rw [List.length_take]; omega), Option.bind_some, Equal_is (summed_B (isB_take hb _)) hb]
def readT (l : List Int) : List Int × Int := match getT putT l (wbT l) with | none => ([], 3) | some t => (t, 0)
def codec_GetTrace.f (l0 : List Int) : Option (List Int × Int) := if l0.length ≤ 1000000 ∧ l0.all (fun x => decide (0 ≤ x ∧ x < 256)) = true then some (readT l0) else none
theorem codec_GetTrace.calls (A0 : Option Addr) (c0 : Nat) (l0 : List Int) (r1 : List Int) (r2 : Int) (w : World) (hr0 : Kd.C (Kd.int .u8) w A0 l0.length l0) (hc0 : l0.length ≤ c0) (h : codec_GetTrace.f l0 = some (r1, r2)) :
  Calls Tryd.prog 7 #[.slice A0 l0.length c0] w fun e w' => ∃ v0_ : Value, e = .returned (.tuple #[v0_, .int .i64 r2]) ∧ Kd.R (Kd.int .i64) 3 w' w.heap.size (fun _ => True) v0_ r1 ∧ Below w.heap.size w w' := by
 unfold codec_GetTrace.f at h
 split at h
 ·rename_i hh
  obtain ⟨hl, hB⟩ := hh
  have hb : isB l0 := fun x hx => of_decide_eq_true (List.all_eq_true.1 hB x hx)
  have h := Option.some.inj h
  unfold readT at h
  have none_ : ∀ {e : Ending} {w' : World}, getT putT l0 (wbT l0) = none → e = .returned (.tuple #[.slice none 0 0, .int .i64 3]) ∧ Below w.heap.size w w' → ∃ v0_ : Value, e = .returned (.tuple #[v0_, .int .i64 r2]) ∧ Kd.R (Kd.int .i64) 3 w' w.heap.size (fun _ => True) v0_ r1 ∧ Below w.heap.size w w' := by
   rintro e w' hn ⟨rfl, hb'⟩
   rw [hn] at h
   injection h with h1 h2
   subst h1 h2
   exact ⟨_, rfl, Kd.R_nil _ _ _ _ _, hb'⟩
  by_cases h4 : l0.length < 4
  ·exact (get_short A0 c0 l0 w h4).mono fun e w' => none_ (by unfold getT; rw [if_pos h4])
  ·have hw := wholeB_is l0 hb hl 1000001 (Nat.le_refl _)
   cases hwb : wbT l0 with
   | false =>
    rw [hwb] at hw
    exact (get_torn 1000001 A0 c0 l0 w hr0 hc0 hl (by omega) hw).mono fun e w' => none_ (by rw [hwb]; unfold getT; rw [if_neg h4, if_pos rfl])
   | true =>
    rw [hwb] at hw
    refine (get_whole 1000001 putT A0 c0 l0 w hr0 hc0 hl (by omega) hb hw (fun t ht => PutTrace_is t ht _ (by decide)) (fun t _ => Equal_is (putT_B t) hb)).mono ?_
    intro e w' hp
    unfold GetPost at hp
    rw [hwb] at h
    cases hg : getT putT l0 true with
    | none =>
     rw [hg] at hp
     exact none_ (by rw [hwb, hg]) hp
    | some t =>
     rw [hg] at hp h
     injection h with h1 h2
     subst h1 h2
     obtain ⟨⟨v, rfl, hR⟩, hb'⟩ := hp
     exact ⟨v, rfl, hR, hb'⟩
 ·cases h
theorem read_put (t : List Int) (h : mayT t = true) : readT (putT t) = (t, 0) := by
 have hl : (putT t).length = (body t.length t).length + 4 := by unfold putT; rw [if_pos h, summed_len]
 have ht : (putT t).take ((putT t).length - 4) = body t.length t := by
  rw [hl, Nat.add_sub_cancel]
  unfold putT summedL
  rw [if_pos h, List.take_left']
  rfl
 have hw : wbT (putT t) = true := by
  unfold wbT
  rw [ht, decide_eq_true_iff]
  unfold putT
  rw [if_pos h]
 unfold readT getT
 rw [hw, if_neg (by omega), if_neg (by decide), ht, hl, Nat.add_sub_cancel, getL_body t.length t [] _ (Nat.le_refl _) (mayT_all h).1 (by have := (mayT_all h).2; simpa using this) (Nat.le_refl _)]
 simp
theorem getTrace_put (t : List Int) (h : mayT t = true) : codec_GetTrace.f (putT t) = some (t, 0) := by
 unfold codec_GetTrace.f
 rw [if_pos ⟨by have := putT_len t; omega, List.all_eq_true.2 fun x hx => decide_eq_true (putT_B t x hx)⟩, read_put t h]
theorem getT_put {l t : List Int} (h : getT putT l (wbT l) = some t) : putT t = l := by
 unfold getT at h
 split at h
 ·cases h
 split at h
 ·cases h
 split at h
 ·cases h
 ·split at h
  ·cases h
  split at h
  ·injection h with h
   subst h
   assumption
  ·cases h
theorem ints_l0 (a b : List Int) (ha : a.length ≤ 1000000) (hl : a.length = b.length) : ∀ d p k, p + d = a.length → d < k → tocsinlaw26_ints.l0 k a b p = some (decide (a.drop p = b.drop p)) := by
 intro d
 induction d with
 | zero =>
  intro p k hp hk
  obtain ⟨k, rfl⟩ : ∃ k', k = k' + 1 := ⟨k - 1, by omega⟩
  unfold tocsinlaw26_ints.l0
  rw [if_neg (by omega), List.drop_of_length_le (by omega), List.drop_of_length_le (by omega)]
  rfl
 | succ d ih =>
  intro p k hp hk
  obtain ⟨k, rfl⟩ : ∃ k', k = k' + 1 := ⟨k - 1, by omega⟩
  unfold tocsinlaw26_ints.l0
  rw [rd_at a p (by omega), rd_at b p (by omega), if_pos (by omega), if_pos (by omega), if_pos (by omega), w64 ((p : Int) + 1) (by omega) (by omega), show (p : Int) + 1 = ((p + 1 : Nat) : Int) by omega]
  by_cases c : rd a (p : Int) = rd b (p : Int)
  ·rw [if_pos c, ih (p + 1) k (by omega) (by omega), c]
   congr 1
   rw [decide_eq_decide]
   exact ⟨fun h => by rw [h], fun h => (List.cons.inj h).2⟩
  ·rw [if_neg c]
   congr 1
   symm
   rw [decide_eq_false_iff_not]
   exact fun h => c (List.cons.inj h).1
theorem ints_is (a b : List Int) (ha : a.length ≤ 1000000) (k : Nat) (hk : a.length < k) : tocsinlaw26_ints.f k a b = some (decide (a = b)) := by
 unfold tocsinlaw26_ints.f
 by_cases hl : a.length = b.length
 ·rw [if_pos (by omega)]
  have := ints_l0 a b ha hl a.length 0 k (by omega) hk
  rw [List.drop_zero, List.drop_zero] at this
  exact this
 ·rw [if_neg (by omega)]
  congr 1
  symm
  rw [decide_eq_false_iff_not]
  exact fun h => hl (by rw [h])
theorem R_raw (W : World) (xs : List Int) (hl : xs.length ≤ maxLen) : Kd.R (Kd.int .i64) 3 (W.alloc (.cells (xs.map (Value.int .i64)).toArray 3)) W.heap.size (fun _ => True) (.slice (some ⟨W.heap.size, 0, none⟩) xs.length xs.length) xs := by
 refine ⟨fun _ _ => trivial, xs.map (Value.int .i64), ⟨by show _ = xs.length * 1; simp, Or.inr ⟨W.heap.size, xs.length, (xs.map (Value.int .i64)).toArray, rfl, Nat.le_refl _, by show (W.heap.push _)[W.heap.size]? = _; simp, Nat.le_refl _, hl, by show _ = xs.length * 1; simp, ?_⟩⟩, ?_⟩
 ·show List.take (xs.length * 1) _ = _
  exact List.take_of_length_le (by simp)
 ·exact Kd.reps_scalar xs
theorem raw_C (W : World) (xs : List Int) (hl : xs.length ≤ maxLen) : Kd.C (Kd.int .i64) (W.alloc (.cells (xs.map (Value.int .i64)).toArray 3)) (some ⟨W.heap.size, 0, none⟩) xs.length xs := (Kd.R_reads' (R_raw W xs hl)).2.2
theorem ab_C (W : World) : Kd.C (Kd.int .u8) (W.alloc (.cells #[.int .u8 97, .int .u8 98] 5 (2, 3))) (some ⟨W.heap.size, 0, none⟩) 2 [97, 98] := by
 refine Kd.C_of_reads (d := (0 : Int)) (h1 := fun _ => rfl) ⟨rfl, by decide, fun _ => ⟨_, rfl, fun j hj => ?_⟩⟩
 have hc : ∀ j, (W.alloc (.cells #[.int .u8 97, .int .u8 98] 5 (2, 3))).cell? ⟨W.heap.size, j, none⟩ = (#[Value.int .u8 97, Value.int .u8 98] : Array Value)[j]? := World.cell?_alloc_mark W _ _ _
 match j, hj with
 | 0, _ => simpa [Addr.add] using hc 0
 | 1, _ => simpa [Addr.add] using hc 1
theorem put_len : (putT [0, 0, -1]).length = 8 := by
 show (summedL (encN 2 ++ (encN 1 ++ (encN 1 ++ (encN 0 ++ []))))).length = 8
 rw [summed_len, encN_small 2 (by decide), encN_small 1 (by decide), encN_small 0 (by decide)]
 rfl

end Go.Proofs.YtpgfecaomdioeaaDoor.PCt
