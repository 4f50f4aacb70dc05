/- Contracts that the print takes as given: name.Good, over the listed tables. -/
-- slim
import Derived.Test.YtobkfbkhcghaeaaDoorShelf
import Derived.Test.YtobkfbkhcghaeaaDoorPGdx0
import Derived.Ground.NamesProg
import Derived.WalkKit
import Derived.WalkMore
import Derived.Below
import Derived.Shelf.Unicode.PredsPay
import Derived.Shelf.Unicode.ValidAny
import Derived.Lib.OthersKept
import Derived.Lib.RuneCount
import Derived.Lib.Walk
import Derived.Lib.FieldsU
namespace Go.Proofs.YtobkfbkhcghaeaaDoor.PGd
open Go.RowKit Go.Proofs.YtobkfbkhcghaeaaDoor.PGd Go.Proofs.YtobkfbkhcghaeaaDoorW.PrintWords Go.Proofs.YtobkfbkhcghaeaaDoorW.PrintLast Go.Proofs.YtobkfbkhcghaeaaDoorW.PrintMore 
set_option linter.unusedVariables false
set_option linter.unusedSimpArgs false

-- unicode.IsLetter and utf8.ValidString by the shelf's contracts, over the listed tables
open Go.Shelf Go.Lib
def Tab (w : World) : Prop :=
 Lib.TabIs Tryd.prog w "unicode.properties" .u8 Lib.propertiesTab ∧ RVar (Tryd.lays200_ren.g 8) letterT w ∧ Lib.Utf8Tabs (Tryd.lays196_ren.g 3) (Tryd.lays196_ren.g 4) w
theorem tab_below {w w' : World} (h : Tab w) (hb : Below w.heap.size w w') : Tab w' :=
 ⟨TabIs_below (g := Tryd.lays200_ren.g 7) (by kernel_rfl) h.1 hb, RVar_below h.2.1 hb, Utf8Tabs_below h.2.2 hb⟩
theorem letter_c (r : Int) (w : World) (hlo : -2147483648 ≤ r) (hhi : r ≤ 2147483647) (hT : Tab w) :
  Calls Tryd.prog 44 #[.int .i32 r] w fun e w' => e = .returned (.bool (isLetterU r)) ∧ Below w.heap.size w w' :=
 Tryd.unicode_IsLetter_all r w hlo hhi hT.1 hT.2.1
theorem valid_c (s : ByteArray) (w : World) (hs : s.size ≤ 9223372036854775807) (hT : Tab w) :
  Calls Tryd.prog 46 #[.string s] w fun e w' => e = .returned (.bool (Lib.validD s.data.toList)) ∧ Below w.heap.size w w' :=
 Tryd.utf8_ValidString s w hs hT.2.2

-- the runes of a text, each with its place; what a name is
def runesF (s : ByteArray) : Nat → Nat → List (Nat × Nat)
 | 0, _ => []
 | f + 1, p => if p < s.size then (p, (Utf8.decode s p).1) :: runesF s f (p + (Utf8.decode s p).2) else []
def runes (s : ByteArray) : List (Nat × Nat) := runesF s s.size 0
theorem runesF_end (s : ByteArray) (f p : Nat) (h : ¬ p < s.size) : runesF s f p = [] := by
 cases f with
 | zero => rfl
 | succ f => simp [runesF, h]
theorem runesF_step (s : ByteArray) (f p : Nat) (h : p < s.size) : runesF s (f + 1) p = (p, (Utf8.decode s p).1) :: runesF s f (p + (Utf8.decode s p).2) := by simp [runesF, h]
def isDig (r : Nat) : Bool := decide (48 ≤ r) && decide (r ≤ 57)
def goodF : List (Nat × Nat) → Nat → Option Nat
 | [], n => some n
 | (_, r) :: t, n => if Lib.isLetterU (r : Int) || (!decide (n = 0) && (isDig r || decide (r = 95))) then goodF t (n + 1) else none
def goodB (s : ByteArray) : Bool := match goodF (runes s) 0 with
 | none => false
 | some n => decide (1 ≤ n) && decide (n ≤ 20) && Lib.validD s.data.toList
theorem runesF_len (s : ByteArray) : ∀ f p, (runesF s f p).length ≤ s.size - p := by
 intro f
 induction f with
 | zero => intro p; simp [runesF]
 | succ f ih =>
  intro p
  by_cases h : p < s.size
  ·rw [runesF_step s f p h]
   have := ih (p + (Utf8.decode s p).2)
   have hw := Lib.decode_width_pos s p h
   simp only [List.length_cons]
   omega
  ·rw [runesF_end s _ p h]; simp
theorem goodF_len : ∀ (l : List (Nat × Nat)) n m, goodF l n = some m → m = n + l.length
 | [], n, m, h => by simp [goodF] at h; simp [h]
 | (_, r) :: t, n, m, h => by
  simp only [goodF] at h
  split at h
  ·have := goodF_len t _ _ h
   simp only [List.length_cons]
   omega
  ·cases h
theorem decode_fits (s : ByteArray) (p : Nat) (h : p < s.size) : p + (Utf8.decode s p).2 ≤ s.size := by
 have := Lib.decodeN_le_n' (s.size - p) (s.get! p).toNat (s.get! (p + 1)).toNat (s.get! (p + 2)).toNat (s.get! (p + 3)).toNat (by omega)
 rw [← Lib.decode_at] at this
 omega

theorem i32_ok (s : ByteArray) (p : Nat) : -2147483648 ≤ ((Utf8.decode s p).1 : Int) ∧ ((Utf8.decode s p).1 : Int) ≤ 2147483647 := by
 have := decode_le s p
 omega
set_option maxHeartbeats 1000000 in
set_option maxRecDepth 1000000 in
theorem digit_c (r : Nat) (w : World) :
  Calls Tryd.prog 45 #[.int .i32 (r : Int)] w fun e w' => e = .returned (.bool (isDig r)) ∧ Below w.heap.size w w' := by
 unfold isDig
 by_cases c0 : 48 ≤ r
 ·have d0 : decide ((r : Int) ≥ 48) = true := decide_eq_true (by omega)
  by_cases c1 : r ≤ 57
  ·have d1 : decide ((r : Int) ≤ 57) = true := decide_eq_true (by omega)
   go_enter Tryd.func45, Tryd.ntmps45
   go_wp2
   go_ret
   exact ⟨by simp [c0, c1], by repeat (first | exact Below.refl _ _ | apply below_alloc | apply pw_below_drewN | apply below_drew1)⟩
  ·have d1 : decide ((r : Int) ≤ 57) = false := decide_eq_false (by omega)
   go_enter Tryd.func45, Tryd.ntmps45
   go_wp2
   go_ret
   exact ⟨by simp [c0, c1], by repeat (first | exact Below.refl _ _ | apply below_alloc | apply pw_below_drewN | apply below_drew1)⟩
 ·have d0 : decide ((r : Int) ≥ 48) = false := decide_eq_false (by omega)
  go_enter Tryd.func45, Tryd.ntmps45
  go_wp2
  go_ret
  exact ⟨by simp [c0], by repeat (first | exact Below.refl _ _ | apply below_alloc | apply pw_below_drewN | apply below_drew1)⟩
theorem i32_pos (s : ByteArray) (p : Nat) (h : p < s.size) : 1 ≤ (Utf8.decode s p).2 := Lib.decode_width_pos s p h
set_option maxHeartbeats 4000000 in
set_option maxRecDepth 1000000 in
theorem good_c (s : ByteArray) (w : World) (hs : s.size ≤ 4611686018427387904) (hT : Tab w) :
  Calls Tryd.prog 30 #[.string s] w fun e w' => e = .returned (.bool (goodB s)) ∧ Below w.heap.size w w' := by
 have HT := Aside0.mk hT
 clear hT
 go_enter Tryd.func30, Tryd.ntmps30
 go_wp2
 go_loopg [3, 5] s.size (fun gf v3 v5 wr => ∃ (p n : Nat), v3 = .int .i64 n ∧ Aside0 (goodF (runesF s gf p) n = goodF (runes s) 0) ∧ wr.heap[w.heap.size]? = some (.stringIter s p) ∧ Aside0 (Below w.heap.size w wr) ∧ s.size ≤ p + gf ∧ n ≤ p)
 case atStart => exact ⟨0, 0, rfl, ⟨rfl⟩, World.iter_heap w s 0, ⟨(Below.refl _ w).alloc (Nat.le_refl _) _⟩, by omega, Nat.le_refl _⟩
 case round =>
  obtain ⟨p, n, rfl, HG, hit, HB, hfu, hnp⟩ := hrel
  have hsz : w.heap.size < wr.heap.size := (Array.getElem?_eq_some_iff.1 hit).1
  by_cases hp : p < s.size
  ·obtain ⟨g', rfl⟩ : ∃ g', gk = g' + 1 := ⟨gk - 1, by omega⟩
   have hnx : ∀ ty, (Instr.next (.pointer (some ⟨w.heap.size, 0, none⟩)) true ty).run Tryd.prog wr = _ := fun ty => Lib.run_next_any_at wr w.heap.size s p ty hit hp
   have hwd := i32_pos s p hp
   have hr := i32_ok s p
   have hG := HG.out
   rw [runesF_step s g' p hp] at hG
   obtain ⟨R, hR⟩ : ∃ R, (Utf8.decode s p).1 = R := ⟨_, rfl⟩
   obtain ⟨K, hK⟩ : ∃ K, (Utf8.decode s p).2 = K := ⟨_, rfl⟩
   rw [hR, hK] at hnx hG
   rw [hK] at hwd
   rw [hR] at hr
   have hit2 := Lib.iterAt_heap wr w.heap.size s p (p + K) hit
   have hb2 := Lib.below_iterAt HB.out (k := w.heap.size) (Nat.le_refl _) s (p + K)
   obtain ⟨W, hWd⟩ : ∃ W, wr.iterAt w.heap.size s (p + K) = W := ⟨_, rfl⟩
   rw [hWd] at hnx hit2 hb2
   have hszW : w.heap.size < W.heap.size := (Array.getElem?_eq_some_iff.1 hit2).1
   have HB := Aside0.mk hb2
   have C0 := Aside0.mk (letter_c (R : Int) W hr.1 hr.2 (tab_below HT.out hb2))
   clear HG hit hb2
   simp only [goodF] at hG
   by_cases l1 : Lib.isLetterU (R : Int) = true
   ·simp only [l1, Bool.true_or, if_true] at hG C0
    have HG := Aside0.mk hG
    clear hG l1
    go_wp2_with (go_at_call 44; (with_reducible refine (C0.out).mono ?_); rintro e w7 ⟨rfl, hb⟩; have hit7 := (hb.block _ hszW).trans hit2; have hsz7 : w.heap.size < w7.heap.size := (Array.getElem?_eq_some_iff.1 hit7).1; have n0_ := Aside0.mk (HB.out.trans (hb.mono (Nat.le_of_lt hszW))); clear HB; have HB := n0_; clear n0_ hb)
    go_roundg g'
    case measure => omega
    case rel => exact ⟨p + K, n + 1, by go_num, HG, hit7, HB, by omega, by omega⟩
   ·replace l1 := Bool.eq_false_iff.mpr l1
    simp only [l1, Bool.false_or] at hG C0
    by_cases l2 : n = 0
    ·subst l2
     simp at hG
     have HG := Aside0.mk hG
     clear hG l1
     go_wp2_with (go_at_call 44; (with_reducible refine (C0.out).mono ?_); rintro e w7 ⟨rfl, hb⟩; have hit7 := (hb.block _ hszW).trans hit2; have hsz7 : w.heap.size < w7.heap.size := (Array.getElem?_eq_some_iff.1 hit7).1; have n0_ := Aside0.mk (HB.out.trans (hb.mono (Nat.le_of_lt hszW))); clear HB; have HB := n0_; clear n0_ hb)
     go_ret
     refine ⟨?_, HB.out⟩
     unfold goodB
     rw [← HG.out]
     rfl
    ·have l2b : ((n : Int) == 0) = false := by simp; omega
     simp only [l2, decide_false, Bool.not_false, Bool.true_and] at hG
     by_cases l3 : isDig R = true
     ·simp only [l3, Bool.true_or, if_true] at hG
      have C1 := Aside0.mk (fun W' => digit_c R W')
      simp only [l3] at C1
      have HG := Aside0.mk hG
      clear hG l1 l3
      go_wp2_with (first | (go_at_call 44; (with_reducible refine (C0.out).mono ?_); rintro e w7 ⟨rfl, hb⟩; have hit7 := (hb.block _ hszW).trans hit2; have hsz7 : w.heap.size < w7.heap.size := (Array.getElem?_eq_some_iff.1 hit7).1; have n0_ := Aside0.mk (HB.out.trans (hb.mono (Nat.le_of_lt hszW))); clear HB; have HB := n0_; clear n0_ hb) | (go_at_call 45; (with_reducible refine (C1.out _).mono ?_); rintro e w8 ⟨rfl, hb⟩; have hit8 := (hb.block _ hsz7).trans hit7; have n0_ := Aside0.mk (HB.out.trans (hb.mono (Nat.le_of_lt hsz7))); clear HB; have HB := n0_; clear n0_ hb))
      go_roundg g'
      case measure => omega
      case rel => exact ⟨p + K, n + 1, by go_num, HG, hit8, HB, by omega, by omega⟩
     ·replace l3 := Bool.eq_false_iff.mpr l3
      simp only [l3, Bool.false_or] at hG
      have C1 := Aside0.mk (fun W' => digit_c R W')
      simp only [l3] at C1
      by_cases l4 : R = 95
      ·have l4b : ((R : Int) != 95) = false := by simp; omega
       simp only [l4, decide_true, if_true] at hG
       have HG := Aside0.mk hG
       clear hG l1 l3 l4
       go_wp2_with (first | (go_at_call 44; (with_reducible refine (C0.out).mono ?_); rintro e w7 ⟨rfl, hb⟩; have hit7 := (hb.block _ hszW).trans hit2; have hsz7 : w.heap.size < w7.heap.size := (Array.getElem?_eq_some_iff.1 hit7).1; have n0_ := Aside0.mk (HB.out.trans (hb.mono (Nat.le_of_lt hszW))); clear HB; have HB := n0_; clear n0_ hb) | (go_at_call 45; (with_reducible refine (C1.out _).mono ?_); rintro e w8 ⟨rfl, hb⟩; have hit8 := (hb.block _ hsz7).trans hit7; have n0_ := Aside0.mk (HB.out.trans (hb.mono (Nat.le_of_lt hsz7))); clear HB; have HB := n0_; clear n0_ hb))
       go_roundg g'
       case measure => omega
       case rel => exact ⟨p + K, n + 1, by go_num, HG, hit8, HB, by omega, by omega⟩
      ·have l4b : ((R : Int) != 95) = true := by simp; omega
       simp only [l4, decide_false] at hG
       have HG := Aside0.mk hG
       clear hG l1 l3 l4
       go_wp2_with (first | (go_at_call 44; (with_reducible refine (C0.out).mono ?_); rintro e w7 ⟨rfl, hb⟩; have hit7 := (hb.block _ hszW).trans hit2; have hsz7 : w.heap.size < w7.heap.size := (Array.getElem?_eq_some_iff.1 hit7).1; have n0_ := Aside0.mk (HB.out.trans (hb.mono (Nat.le_of_lt hszW))); clear HB; have HB := n0_; clear n0_ hb) | (go_at_call 45; (with_reducible refine (C1.out _).mono ?_); rintro e w8 ⟨rfl, hb⟩; have hit8 := (hb.block _ hsz7).trans hit7; have n0_ := Aside0.mk (HB.out.trans (hb.mono (Nat.le_of_lt hsz7))); clear HB; have HB := n0_; clear n0_ hb))
       go_ret
       refine ⟨?_, HB.out⟩
       unfold goodB
       rw [← HG.out]
       rfl
  ·have hnx : ∀ ty, (Instr.next (.pointer (some ⟨w.heap.size, 0, none⟩)) true ty).run Tryd.prog wr = _ := fun ty => Lib.run_next_end_at wr w.heap.size s p ty hit hp
   have hG := HG.out
   rw [runesF_end s gk p hp] at hG
   simp only [goodF] at hG
   have hgb : goodB s = (decide (1 ≤ n) && decide (n ≤ 20) && Lib.validD s.data.toList) := by unfold goodB; rw [← hG]
   replace hgb := Aside0.mk hgb
   clear HG hG
   by_cases l1 : 1 ≤ n
   ·have l1b : decide ((n : Int) ≥ 1) = true := decide_eq_true (by omega)
    by_cases l2 : n ≤ 20
    ·have l2b : decide ((n : Int) ≤ 20) = true := decide_eq_true (by omega)
     have C2 := Aside0.mk (valid_c s wr (by omega) (tab_below HT.out HB.out))
     go_wp2_with (go_at_call 46; (with_reducible refine (C2.out).mono ?_); rintro e w7 ⟨rfl, hb⟩; have n0_ := Aside0.mk (HB.out.trans (hb.mono (Nat.le_of_lt hsz))); clear HB; have HB := n0_; clear n0_ hb)
     go_ret
     exact ⟨by rw [hgb.out]; simp [l1, l2], HB.out⟩
    ·have l2b : decide ((n : Int) ≤ 20) = false := decide_eq_false (by omega)
     go_wp2
     go_ret
     exact ⟨by rw [hgb.out]; simp [l1, l2], HB.out⟩
   ·have l1b : decide ((n : Int) ≥ 1) = false := decide_eq_false (by omega)
    go_wp2
    go_ret
    exact ⟨by rw [hgb.out]; simp [l1], HB.out⟩

def lim : Nat := 4398046511104
def name_Good.f (a0 : ByteArray) : Option Bool := if a0.size ≤ lim then some (goodB a0) else none
theorem name_Good.calls (a0 : ByteArray) (r : Bool) (w : World) (hTb : Tab w) (h : name_Good.f a0 = some r) :
  Calls Tryd.prog 30 #[.string a0] w fun e w' => e = .returned (.bool r) ∧ Below w.heap.size w w' := by
 unfold name_Good.f at h
 split at h
 ·obtain rfl := Option.some.inj h
  exact good_c a0 w (by unfold lim at *; omega) hTb
 ·cases h

end Go.Proofs.YtobkfbkhcghaeaaDoor.PGd
