/- Contracts that the print takes as given: name.Good, over the listed tables. -/
-- slim
import Derived.Test.YtobkfbkhcghaeaaGreatDoorShelf
import Derived.Test.YtobkfbkhcghaeaaGreatDoorPGdx0
import Derived.Ground.NamesProg
import Derived.WalkKit
import Derived.WalkMore
import Derived.Below
import Derived.Shelf.Unicode.PredsPay
import Derived.Shelf.Unicode.ValidAny
import Derived.Lib.OthersKept
import Derived.Lib.RuneCount
import Derived.Lib.Walk
import Derived.Lib.FieldsU
namespace Go.Proofs.YtobkfbkhcghaeaaGreatDoor.PGd
open Go.RowKit Go.Proofs.YtobkfbkhcghaeaaGreatDoor.PGd Go.Proofs.YtobkfbkhcghaeaaGreatDoorW.PrintWords Go.Proofs.YtobkfbkhcghaeaaGreatDoorW.PrintLast Go.Proofs.YtobkfbkhcghaeaaGreatDoorW.PrintMore 
set_option linter.unusedVariables false
set_option linter.unusedSimpArgs false

-- unicode.IsLetter and utf8.ValidString by the shelf's contracts, over the listed tables
open Go.Shelf Go.Lib
def Tab (w : World) : Prop :=
 Lib.TabIs Tryz.prog w "unicode.properties" .u8 Lib.propertiesTab ∧ RVar (Tryz.lays200_ren.g 8) letterT w ∧ Lib.Utf8Tabs (Tryz.lays196_ren.g 3) (Tryz.lays196_ren.g 4) w
theorem tab_below {w w' : World} (h : Tab w) (hb : Below w.heap.size w w') : Tab w' :=
 ⟨TabIs_below (g := Tryz.lays200_ren.g 7) (by kernel_rfl) h.1 hb, RVar_below h.2.1 hb, Utf8Tabs_below h.2.2 hb⟩
theorem letter_c (r : Int) (w : World) (hlo : -2147483648 ≤ r) (hhi : r ≤ 2147483647) (hT : Tab w) :
  Calls Tryz.prog 85 #[.int .i32 r] w fun e w' => e = .returned (.bool (isLetterU r)) ∧ Below w.heap.size w w' :=
 Tryz.unicode_IsLetter_all r w hlo hhi hT.1 hT.2.1
theorem valid_c (s : ByteArray) (w : World) (hs : s.size ≤ 9223372036854775807) (hT : Tab w) :
  Calls Tryz.prog 87 #[.string s] w fun e w' => e = .returned (.bool (Lib.validD s.data.toList)) ∧ Below w.heap.size w w' :=
 Tryz.utf8_ValidString s w hs hT.2.2

-- the runes of a text, each with its place; what a name is
def runesF (s : ByteArray) : Nat → Nat → List (Nat × Nat)
 | 0, _ => []
 | f + 1, p => if p < s.size then (p, (Utf8.decode s p).1) :: runesF s f (p + (Utf8.decode s p).2) else []
def runes (s : ByteArray) : List (Nat × Nat) := runesF s s.size 0
theorem runesF_end (s : ByteArray) (f p : Nat) (h : ¬ p < s.size) : runesF s f p = [] := by
 cases f with
 | zero => rfl
 | succ f => simp [runesF, h]
theorem runesF_step (s : ByteArray) (f p : Nat) (h : p < s.size) : runesF s (f + 1) p = (p, (Utf8.decode s p).1) :: runesF s f (p + (Utf8.decode s p).2) := by simp [runesF, h]
def isDig (r : Nat) : Bool := decide (48 ≤ r) && decide (r ≤ 57)
def goodF : List (Nat × Nat) → Nat → Option Nat
 | [], n => some n
 | (_, r) :: t, n => if Lib.isLetterU (r : Int) || (!decide (n = 0) && (isDig r || decide (r = 95))) then goodF t (n + 1) else none
def goodB (s : ByteArray) : Bool := match goodF (runes s) 0 with
 | none => false
 | some n => decide (1 ≤ n) && decide (n ≤ 20) && Lib.validD s.data.toList
theorem runesF_len (s : ByteArray) : ∀ f p, (runesF s f p).length ≤ s.size - p := by
 intro f
 induction f with
 | zero => intro p; simp [runesF]
 | succ f ih =>
  intro p
  by_cases h : p < s.size
  ·rw [runesF_step s f p h]
   have := ih (p + (Utf8.decode s p).2)
   have hw := Lib.decode_width_pos s p h
   simp only [List.length_cons]
   omega
  ·rw [runesF_end s _ p h]; simp
theorem goodF_len : ∀ (l : List (Nat × Nat)) n m, goodF l n = some m → m = n + l.length
 | [], n, m, h => by simp [goodF] at h; simp [h]
 | (_, r) :: t, n, m, h => by
  simp only [goodF] at h
  split at h
  ·have := goodF_len t _ _ h
   simp only [List.length_cons]
   omega
  ·cases h
theorem decode_fits (s : ByteArray) (p : Nat) (h : p < s.size) : p + (Utf8.decode s p).2 ≤ s.size := by
 have := Lib.decodeN_le_n' (s.size - p) (s.get! p).toNat (s.get! (p + 1)).toNat (s.get! (p + 2)).toNat (s.get! (p + 3)).toNat (by omega)
 rw [← Lib.decode_at] at this
 omega

theorem i32_ok (s : ByteArray) (p : Nat) : -2147483648 ≤ ((Utf8.decode s p).1 : Int) ∧ ((Utf8.decode s p).1 : Int) ≤ 2147483647 := by
 have := decode_le s p
 omega
set_option maxHeartbeats 1000000 in
set_option maxRecDepth 1000000 in
theorem digit_c (r : Nat) (w : World) :
  Calls Tryz.prog 86 #[.int .i32 (r : Int)] w fun e w' => e = .returned (.bool (isDig r)) ∧ Below w.heap.size w w' := by
 unfold isDig
 by_cases c0 : 48 ≤ r
 ·have d0 : decide ((r : Int) ≥ 48) = true := decide_eq_true (by omega)
  by_cases c1 : r ≤ 57
  ·have d1 : decide ((r : Int) ≤ 57) = true := decide_eq_true (by omega)
   go_enter Tryz.func86, Tryz.ntmps86
   go_wp2
   go_ret
   exact ⟨by simp [c0, c1], by repeat (first | exact Below.refl _ _ | apply below_alloc | apply pw_below_drewN | apply below_drew1)⟩
  ·have d1 : decide ((r : Int) ≤ 57) = false := decide_eq_false (by omega)
   go_enter Tryz.func86, Tryz.ntmps86
   go_wp2
   go_ret
   exact ⟨by simp [c0, c1], by repeat (first | exact Below.refl _ _ | apply below_alloc | apply pw_below_drewN | apply below_drew1)⟩
 ·have d0 : decide ((r : Int) ≥ 48) = false := decide_eq_false (by omega)
  go_enter Tryz.func86, Tryz.ntmps86
  go_wp2
  go_ret
  exact ⟨by simp [c0], by repeat (first | exact Below.refl _ _ | apply below_alloc | apply pw_below_drewN | apply below_drew1)⟩
theorem i32_pos (s : ByteArray) (p : Nat) (h : p < s.size) : 1 ≤ (Utf8.decode s p).2 := Lib.decode_width_pos s p h
set_option maxHeartbeats 4000000 in
set_option maxRecDepth 1000000 in
theorem good_c (s : ByteArray) (w : World) (hs : s.size ≤ 4611686018427387904) (hT : Tab w) :
  Calls Tryz.prog 61 #[.string s] w fun e w' => e = .returned (.bool (goodB s)) ∧ Below w.heap.size w w' := by
 have HT := Aside0.mk hT
 clear hT
 go_enter Tryz.func61, Tryz.ntmps61
 go_wp2
 go_loopg [3, 5] s.size (fun gf v3 v5 wr => ∃ (p n : Nat), v3 = .int .i64 n ∧ Aside0 (goodF (runesF s gf p) n = goodF (runes s) 0) ∧ wr.heap[w.heap.size]? = some (.stringIter s p) ∧ Aside0 (Below w.heap.size w wr) ∧ s.size ≤ p + gf ∧ n ≤ p)
 case atStart => exact ⟨0, 0, rfl, ⟨rfl⟩, World.iter_heap w s 0, ⟨(Below.refl _ w).alloc (Nat.le_refl _) _⟩, by omega, Nat.le_refl _⟩
 case round =>
  obtain ⟨p, n, rfl, HG, hit, HB, hfu, hnp⟩ := hrel
  have hsz : w.heap.size < wr.heap.size := (Array.getElem?_eq_some_iff.1 hit).1
  by_cases hp : p < s.size
  ·obtain ⟨g', rfl⟩ : ∃ g', gk = g' + 1 := ⟨gk - 1, by omega⟩
   have hnx : ∀ ty, (Instr.next (.pointer (some ⟨w.heap.size, 0, none⟩)) true ty).run Tryz.prog wr = _ := fun ty => Lib.run_next_any_at wr w.heap.size s p ty hit hp
   have hwd := i32_pos s p hp
   have hr := i32_ok s p
   have hG := HG.out
   rw [runesF_step s g' p hp] at hG
   obtain ⟨R, hR⟩ : ∃ R, (Utf8.decode s p).1 = R := ⟨_, rfl⟩
   obtain ⟨K, hK⟩ : ∃ K, (Utf8.decode s p).2 = K := ⟨_, rfl⟩
   rw [hR, hK] at hnx hG
   rw [hK] at hwd
   rw [hR] at hr
   have hit2 := Lib.iterAt_heap wr w.heap.size s p (p + K) hit
   have hb2 := Lib.below_iterAt HB.out (k := w.heap.size) (Nat.le_refl _) s (p + K)
   obtain ⟨W, hWd⟩ : ∃ W, wr.iterAt w.heap.size s (p + K) = W := ⟨_, rfl⟩
   rw [hWd] at hnx hit2 hb2
   have hszW : w.heap.size < W.heap.size := (Array.getElem?_eq_some_iff.1 hit2).1
   have HB := Aside0.mk hb2
   have C0 := Aside0.mk (letter_c (R : Int) W hr.1 hr.2 (tab_below HT.out hb2))
   clear HG hit hb2
   simp only [goodF] at hG
   by_cases l1 : Lib.isLetterU (R : Int) = true
   ·simp only [l1, Bool.true_or, if_true] at hG C0
    have HG := Aside0.mk hG
    clear hG l1
    go_wp2_with (go_at_call 85; (with_reducible refine (C0.out).mono ?_); rintro e w7 ⟨rfl, hb⟩; have hit7 := (hb.block _ hszW).trans hit2; have hsz7 : w.heap.size < w7.heap.size := (Array.getElem?_eq_some_iff.1 hit7).1; have n0_ := Aside0.mk (HB.out.trans (hb.mono (Nat.le_of_lt hszW))); clear HB; have HB := n0_; clear n0_ hb)
    go_roundg g'
    case measure => omega
    case rel => exact ⟨p + K, n + 1, by go_num, HG, hit7, HB, by omega, by omega⟩
   ·replace l1 := Bool.eq_false_iff.mpr l1
    simp only [l1, Bool.false_or] at hG C0
    by_cases l2 : n = 0
    ·subst l2
     simp at hG
     have HG := Aside0.mk hG
     clear hG l1
     go_wp2_with (go_at_call 85; (with_reducible refine (C0.out).mono ?_); rintro e w7 ⟨rfl, hb⟩; have hit7 := (hb.block _ hszW).trans hit2; have hsz7 : w.heap.size < w7.heap.size := (Array.getElem?_eq_some_iff.1 hit7).1; have n0_ := Aside0.mk (HB.out.trans (hb.mono (Nat.le_of_lt hszW))); clear HB; have HB := n0_; clear n0_ hb)
     go_ret
     refine ⟨?_, HB.out⟩
     unfold goodB
     rw [← HG.out]
     rfl
    ·have l2b : ((n : Int) == 0) = false := by simp; omega
     simp only [l2, decide_false, Bool.not_false, Bool.true_and] at hG
     by_cases l3 : isDig R = true
     ·simp only [l3, Bool.true_or, if_true] at hG
      have C1 := Aside0.mk (fun W' => digit_c R W')
      simp only [l3] at C1
      have HG := Aside0.mk hG
      clear hG l1 l3
      go_wp2_with (first | (go_at_call 85; (with_reducible refine (C0.out).mono ?_); rintro e w7 ⟨rfl, hb⟩; have hit7 := (hb.block _ hszW).trans hit2; have hsz7 : w.heap.size < w7.heap.size := (Array.getElem?_eq_some_iff.1 hit7).1; have n0_ := Aside0.mk (HB.out.trans (hb.mono (Nat.le_of_lt hszW))); clear HB; have HB := n0_; clear n0_ hb) | (go_at_call 86; (with_reducible refine (C1.out _).mono ?_); rintro e w8 ⟨rfl, hb⟩; have hit8 := (hb.block _ hsz7).trans hit7; have n0_ := Aside0.mk (HB.out.trans (hb.mono (Nat.le_of_lt hsz7))); clear HB; have HB := n0_; clear n0_ hb))
      go_roundg g'
      case measure => omega
      case rel => exact ⟨p + K, n + 1, by go_num, HG, hit8, HB, by omega, by omega⟩
     ·replace l3 := Bool.eq_false_iff.mpr l3
      simp only [l3, Bool.false_or] at hG
      have C1 := Aside0.mk (fun W' => digit_c R W')
      simp only [l3] at C1
      by_cases l4 : R = 95
      ·have l4b : ((R : Int) != 95) = false := by simp; omega
       simp only [l4, decide_true, if_true] at hG
       have HG := Aside0.mk hG
       clear hG l1 l3 l4
       go_wp2_with (first | (go_at_call 85; (with_reducible refine (C0.out).mono ?_); rintro e w7 ⟨rfl, hb⟩; have hit7 := (hb.block _ hszW).trans hit2; have hsz7 : w.heap.size < w7.heap.size := (Array.getElem?_eq_some_iff.1 hit7).1; have n0_ := Aside0.mk (HB.out.trans (hb.mono (Nat.le_of_lt hszW))); clear HB; have HB := n0_; clear n0_ hb) | (go_at_call 86; (with_reducible refine (C1.out _).mono ?_); rintro e w8 ⟨rfl, hb⟩; have hit8 := (hb.block _ hsz7).trans hit7; have n0_ := Aside0.mk (HB.out.trans (hb.mono (Nat.le_of_lt hsz7))); clear HB; have HB := n0_; clear n0_ hb))
       go_roundg g'
       case measure => omega
       case rel => exact ⟨p + K, n + 1, by go_num, HG, hit8, HB, by omega, by omega⟩
      ·have l4b : ((R : Int) != 95) = true := by simp; omega
       simp only [l4, decide_false] at hG
       have HG := Aside0.mk hG
       clear hG l1 l3 l4
       go_wp2_with (first | (go_at_call 85; (with_reducible refine (C0.out).mono ?_); rintro e w7 ⟨rfl, hb⟩; have hit7 := (hb.block _ hszW).trans hit2; have hsz7 : w.heap.size < w7.heap.size := (Array.getElem?_eq_some_iff.1 hit7).1; have n0_ := Aside0.mk (HB.out.trans (hb.mono (Nat.le_of_lt hszW))); clear HB; have HB := n0_; clear n0_ hb) | (go_at_call 86; (with_reducible refine (C1.out _).mono ?_); rintro e w8 ⟨rfl, hb⟩; have hit8 := (hb.block _ hsz7).trans hit7; have n0_ := Aside0.mk (HB.out.trans (hb.mono (Nat.le_of_lt hsz7))); clear HB; have HB := n0_; clear n0_ hb))
       go_ret
       refine ⟨?_, HB.out⟩
       unfold goodB
       rw [← HG.out]
       rfl
  ·have hnx : ∀ ty, (Instr.next (.pointer (some ⟨w.heap.size, 0, none⟩)) true ty).run Tryz.prog wr = _ := fun ty => Lib.run_next_end_at wr w.heap.size s p ty hit hp
   have hG := HG.out
   rw [runesF_end s gk p hp] at hG
   simp only [goodF] at hG
   have hgb : goodB s = (decide (1 ≤ n) && decide (n ≤ 20) && Lib.validD s.data.toList) := by unfold goodB; rw [← hG]
   replace hgb := Aside0.mk hgb
   clear HG hG
   by_cases l1 : 1 ≤ n
   ·have l1b : decide ((n : Int) ≥ 1) = true := decide_eq_true (by omega)
    by_cases l2 : n ≤ 20
    ·have l2b : decide ((n : Int) ≤ 20) = true := decide_eq_true (by omega)
     have C2 := Aside0.mk (valid_c s wr (by omega) (tab_below HT.out HB.out))
     go_wp2_with (go_at_call 87; (with_reducible refine (C2.out).mono ?_); rintro e w7 ⟨rfl, hb⟩; have n0_ := Aside0.mk (HB.out.trans (hb.mono (Nat.le_of_lt hsz))); clear HB; have HB := n0_; clear n0_ hb)
     go_ret
     exact ⟨by rw [hgb.out]; simp [l1, l2], HB.out⟩
    ·have l2b : decide ((n : Int) ≤ 20) = false := decide_eq_false (by omega)
     go_wp2
     go_ret
     exact ⟨by rw [hgb.out]; simp [l1, l2], HB.out⟩
   ·have l1b : decide ((n : Int) ≥ 1) = false := decide_eq_false (by omega)
    go_wp2
    go_ret
    exact ⟨by rw [hgb.out]; simp [l1], HB.out⟩

set_option maxHeartbeats 1000000 in
set_option maxRecDepth 1000000 in
theorem rlen_c (s : ByteArray) (w : World) (hs : s.size ≤ 4611686018427387904) :
  Calls Tryz.prog 88 #[.string s] w fun e w' => e = .returned (.int .i64 ((runes s).length : Nat)) ∧ Below w.heap.size w w' := by
 go_enter Tryz.func88, Tryz.ntmps88
 go_wp2
 go_loopg [3] s.size (fun gf v3 wr => ∃ (p n : Nat), v3 = .int .i64 n ∧ n + (runesF s gf p).length = (runes s).length ∧ wr.heap[w.heap.size]? = some (.stringIter s p) ∧ Aside0 (Below w.heap.size w wr) ∧ s.size ≤ p + gf ∧ n ≤ p)
 case atStart => exact ⟨0, 0, rfl, by simp [runes], World.iter_heap w s 0, ⟨(Below.refl _ w).alloc (Nat.le_refl _) _⟩, by omega, Nat.le_refl _⟩
 case round =>
  obtain ⟨p, n, rfl, hG, hit, HB, hfu, hnp⟩ := hrel
  by_cases hp : p < s.size
  ·obtain ⟨g', rfl⟩ : ∃ g', gk = g' + 1 := ⟨gk - 1, by omega⟩
   have hnx : ∀ ty, (Instr.next (.pointer (some ⟨w.heap.size, 0, none⟩)) true ty).run Tryz.prog wr = _ := fun ty => Lib.run_next_any_at wr w.heap.size s p ty hit hp
   have hwd := i32_pos s p hp
   rw [runesF_step s g' p hp] at hG
   simp only [List.length_cons] at hG
   have hit2 := Lib.iterAt_heap wr w.heap.size s p (p + (Utf8.decode s p).2) hit
   have HB2 := Aside0.mk (Lib.below_iterAt HB.out (k := w.heap.size) (Nat.le_refl _) s (p + (Utf8.decode s p).2))
   go_wp2
   go_roundg g'
   case measure => omega
   case rel => exact ⟨p + (Utf8.decode s p).2, n + 1, by go_num, by omega, hit2, HB2, by omega, by omega⟩
  ·have hnx : ∀ ty, (Instr.next (.pointer (some ⟨w.heap.size, 0, none⟩)) true ty).run Tryz.prog wr = _ := fun ty => Lib.run_next_end_at wr w.heap.size s p ty hit hp
   rw [runesF_end s gk p hp] at hG
   simp only [List.length_nil] at hG
   go_wp2
   go_ret
   exact ⟨by rw [← hG]; rfl, HB.out⟩

theorem letter_not (r : Nat) (h : Lib.isLetterU (r : Int) = true) : r ≠ 65533 ∧ r ≠ 95 ∧ (r < 48 ∨ 57 < r) := by
 refine ⟨?_, ?_, ?_⟩
 ·rintro rfl; exact absurd h (by decide +kernel)
 ·rintro rfl; exact absurd h (by decide +kernel)
 ·rcases Nat.lt_or_ge r 48 with h0 | h0
  ·exact .inl h0
  rcases Nat.lt_or_ge 57 r with h1 | h1
  ·exact .inr h1
  exfalso
  obtain ⟨k, rfl⟩ : ∃ k, r = 48 + k := ⟨r - 48, by omega⟩
  have hk : k < 10 := by omega
  have : ∀ k : Fin 10, Lib.isLetterU ((48 + k.val : Nat) : Int) = false := by decide +kernel
  have := this ⟨k, hk⟩
  simp only at this
  rw [this] at h
  cases h
def refName (s : ByteArray) : Bool := decide (1 ≤ (runes s).length) && decide ((runes s).length ≤ 20) && (goodF (runes s) 0).isSome
set_option maxHeartbeats 4000000 in
set_option maxRecDepth 1000000 in
theorem goodname_c (s : ByteArray) (w : World) (hs : s.size ≤ 4611686018427387904) (hT : Tab w) :
  Calls Tryz.prog 64 #[.string s] w fun e w' => e = .returned (.bool (refName s)) ∧ Below w.heap.size w w' := by
 have HT := Aside0.mk hT
 clear hT
 have CL := Aside0.mk (rlen_c s w hs)
 have hle : (runes s).length ≤ s.size := by have := runesF_len s s.size 0; unfold runes; omega
 unfold refName
 generalize hLL : (runes s).length = LL at CL hle ⊢
 clear hLL
 by_cases n1 : 1 ≤ LL
 case neg =>
  have n1b : decide ((LL : Int) < 1) = true := decide_eq_true (by omega)
  go_enter Tryz.func64, Tryz.ntmps64
  go_wp2_with (go_at_call 88; (with_reducible refine (CL.out).mono ?_); rintro e w7 ⟨rfl, hb⟩)
  go_ret
  exact ⟨by simp [n1], hb⟩
 have n1b : decide ((LL : Int) < 1) = false := decide_eq_false (by omega)
 by_cases n2 : LL ≤ 20
 case neg =>
  have n2b : decide ((LL : Int) > 20) = true := decide_eq_true (by omega)
  go_enter Tryz.func64, Tryz.ntmps64
  go_wp2_with (go_at_call 88; (with_reducible refine (CL.out).mono ?_); rintro e w7 ⟨rfl, hb⟩)
  go_ret
  exact ⟨by simp [n2], hb⟩
 have n2b : decide ((LL : Int) > 20) = false := decide_eq_false (by omega)
 simp only [n1, n2, decide_true, Bool.true_and]
 clear n1 n2
 go_enter Tryz.func64, Tryz.ntmps64
 go_wp2_with (go_at_call 88; (with_reducible refine (CL.out).mono ?_); rintro e w7 ⟨rfl, hb⟩)
 go_loopg [4, 5] s.size (fun gf v4 v5 wr => ∃ (p n : Nat), Aside0 (goodF (runesF s gf p) n = goodF (runes s) 0) ∧ wr.heap[w7.heap.size]? = some (.stringIter s p) ∧ Aside0 (Below w.heap.size w wr) ∧ s.size ≤ p + gf ∧ n ≤ p ∧ (p = 0 ↔ n = 0))
 case atStart => exact ⟨0, 0, ⟨rfl⟩, World.iter_heap w7 s 0, ⟨hb.alloc hb.size _⟩, by omega, Nat.le_refl _, by simp⟩
 case round =>
  obtain ⟨p, n, HG, hit, HB, hfu, hnp, hpn⟩ := hrel
  have hsz0 := hb.size
  clear hb n1b n2b CL
  have hsz : w7.heap.size < wr.heap.size := (Array.getElem?_eq_some_iff.1 hit).1
  by_cases hp : p < s.size
  ·obtain ⟨g', rfl⟩ : ∃ g', gk = g' + 1 := ⟨gk - 1, by omega⟩
   have hnx : ∀ ty, (Instr.next (.pointer (some ⟨w7.heap.size, 0, none⟩)) true ty).run Tryz.prog wr = _ := fun ty => Lib.run_next_any_at wr w7.heap.size s p ty hit hp
   have hwd := i32_pos s p hp
   have hr := i32_ok s p
   have hG := HG.out
   rw [runesF_step s g' p hp] at hG
   obtain ⟨R, hR⟩ : ∃ R, (Utf8.decode s p).1 = R := ⟨_, rfl⟩
   obtain ⟨K, hK⟩ : ∃ K, (Utf8.decode s p).2 = K := ⟨_, rfl⟩
   rw [hR, hK] at hnx hG
   rw [hK] at hwd
   rw [hR] at hr
   have hit2 := Lib.iterAt_heap wr w7.heap.size s p (p + K) hit
   have hb2 := Lib.below_iterAt HB.out (k := w7.heap.size) hsz0 s (p + K)
   obtain ⟨W, hWd⟩ : ∃ W, wr.iterAt w7.heap.size s (p + K) = W := ⟨_, rfl⟩
   rw [hWd] at hnx hit2 hb2
   have hsz2 : w7.heap.size < W.heap.size := (Array.getElem?_eq_some_iff.1 hit2).1
   clear HB HG hit hsz hR hK
   have HB := Aside0.mk hb2
   have HI := Aside0.mk hit2
   have HS := Aside0.mk hsz2
   have C0 : Aside0 (∀ W', Below w.heap.size w W' → _) := ⟨fun W' hb' => letter_c (R : Int) W' hr.1 hr.2 (tab_below HT.out hb')⟩
   simp only [goodF] at hG
   by_cases l1 : Lib.isLetterU (R : Int) = true
   ·obtain ⟨r0, r1, r2⟩ := letter_not R l1
    have r0b : ((R : Int) == 65533) = false := by simp; omega
    have r1b : ((R : Int) != 95) = true := by simp; omega
    simp only [l1, Bool.true_or, if_true] at hG C0
    have HG := Aside0.mk hG
    clear hG l1 r0 r1
    rcases r2 with r2 | r2
    ·have r2b : decide ((R : Int) < 48) = true := decide_eq_true (by omega)
     by_cases p0 : p = 0
     ·have p0b : ((p : Int) == 0) = true := by simp; omega
      go_wp2_with (go_at_call 85; (with_reducible refine (C0.out _ (by first | exact HB.out | exact hb2)).mono ?_); rintro e w7 ⟨rfl, hb⟩; have n1_ := (hb.block _ HS.out).trans HI.out; have n0_ := Aside0.mk (HB.out.trans (hb.mono (Nat.le_trans hsz0 (Nat.le_of_lt HS.out)))); clear HB HI HS; have HB := n0_; have HI := Aside0.mk n1_; have HS := Aside0.mk (Array.getElem?_eq_some_iff.1 n1_).1; clear n0_ n1_ hb)
      go_roundg g'
      case measure => omega
      case rel => exact ⟨p + K, n + 1, HG, HI.out, HB, by omega, by omega, by omega⟩
     ·have p0b : ((p : Int) == 0) = false := by simp; omega
      go_wp2_with (go_at_call 85; (with_reducible refine (C0.out _ (by first | exact HB.out | exact hb2)).mono ?_); rintro e w7 ⟨rfl, hb⟩; have n1_ := (hb.block _ HS.out).trans HI.out; have n0_ := Aside0.mk (HB.out.trans (hb.mono (Nat.le_trans hsz0 (Nat.le_of_lt HS.out)))); clear HB HI HS; have HB := n0_; have HI := Aside0.mk n1_; have HS := Aside0.mk (Array.getElem?_eq_some_iff.1 n1_).1; clear n0_ n1_ hb)
      go_roundg g'
      case measure => omega
      case rel => exact ⟨p + K, n + 1, HG, HI.out, HB, by omega, by omega, by omega⟩
    ·have r2b : decide ((R : Int) < 48) = false := decide_eq_false (by omega)
     have r3b : decide ((R : Int) > 57) = true := decide_eq_true (by omega)
     by_cases p0 : p = 0
     ·have p0b : ((p : Int) == 0) = true := by simp; omega
      go_wp2_with (go_at_call 85; (with_reducible refine (C0.out _ (by first | exact HB.out | exact hb2)).mono ?_); rintro e w7 ⟨rfl, hb⟩; have n1_ := (hb.block _ HS.out).trans HI.out; have n0_ := Aside0.mk (HB.out.trans (hb.mono (Nat.le_trans hsz0 (Nat.le_of_lt HS.out)))); clear HB HI HS; have HB := n0_; have HI := Aside0.mk n1_; have HS := Aside0.mk (Array.getElem?_eq_some_iff.1 n1_).1; clear n0_ n1_ hb)
      go_roundg g'
      case measure => omega
      case rel => exact ⟨p + K, n + 1, HG, HI.out, HB, by omega, by omega, by omega⟩
     ·have p0b : ((p : Int) == 0) = false := by simp; omega
      go_wp2_with (go_at_call 85; (with_reducible refine (C0.out _ (by first | exact HB.out | exact hb2)).mono ?_); rintro e w7 ⟨rfl, hb⟩; have n1_ := (hb.block _ HS.out).trans HI.out; have n0_ := Aside0.mk (HB.out.trans (hb.mono (Nat.le_trans hsz0 (Nat.le_of_lt HS.out)))); clear HB HI HS; have HB := n0_; have HI := Aside0.mk n1_; have HS := Aside0.mk (Array.getElem?_eq_some_iff.1 n1_).1; clear n0_ n1_ hb)
      go_roundg g'
      case measure => omega
      case rel => exact ⟨p + K, n + 1, HG, HI.out, HB, by omega, by omega, by omega⟩
   ·replace l1 := Bool.eq_false_iff.mpr l1
    simp only [l1, Bool.false_or] at hG C0
    clear l1
    by_cases p0 : p = 0
    ·have p0b : ((p : Int) == 0) = true := by simp; omega
     have hn0 := hpn.1 p0
     simp only [hn0, decide_true, Bool.not_true, Bool.false_and, Bool.false_eq_true, if_false] at hG
     have HG := Aside0.mk hG
     clear hG hn0 p0 hpn
     go_wp2_with (go_at_call 85; (with_reducible refine (C0.out _ (by first | exact HB.out | exact hb2)).mono ?_); rintro e w7 ⟨rfl, hb⟩; have n1_ := (hb.block _ HS.out).trans HI.out; have n0_ := Aside0.mk (HB.out.trans (hb.mono (Nat.le_trans hsz0 (Nat.le_of_lt HS.out)))); clear HB HI HS; have HB := n0_; have HI := Aside0.mk n1_; have HS := Aside0.mk (Array.getElem?_eq_some_iff.1 n1_).1; clear n0_ n1_ hb)
     go_ret
     exact ⟨by rw [← HG.out]; rfl, HB.out⟩
    have p0b : ((p : Int) == 0) = false := by simp; omega
    have hn0 : n ≠ 0 := fun h => p0 (hpn.2 h)
    simp only [hn0, decide_false, Bool.not_false, Bool.true_and] at hG
    by_cases r95 : R = 95
    ·have r0b : ((R : Int) == 65533) = false := by simp; omega
     have r1b : ((R : Int) != 95) = false := by simp; omega
     simp only [r95, decide_true, Bool.or_true, if_true] at hG
     have HG := Aside0.mk hG
     clear hG r95
     go_wp2_with (go_at_call 85; (with_reducible refine (C0.out _ (by first | exact HB.out | exact hb2)).mono ?_); rintro e w7 ⟨rfl, hb⟩; have n1_ := (hb.block _ HS.out).trans HI.out; have n0_ := Aside0.mk (HB.out.trans (hb.mono (Nat.le_trans hsz0 (Nat.le_of_lt HS.out)))); clear HB HI HS; have HB := n0_; have HI := Aside0.mk n1_; have HS := Aside0.mk (Array.getElem?_eq_some_iff.1 n1_).1; clear n0_ n1_ hb)
     go_roundg g'
     case measure => omega
     case rel => exact ⟨p + K, n + 1, HG, HI.out, HB, by omega, by omega, by omega⟩
    have r1b : ((R : Int) != 95) = true := by simp; omega
    simp only [r95, decide_false, Bool.or_false] at hG
    by_cases rd : 48 ≤ R ∧ R ≤ 57
    ·have r0b : ((R : Int) == 65533) = false := by simp; omega
     have r2b : decide ((R : Int) < 48) = false := decide_eq_false (by omega)
     have r3b : decide ((R : Int) > 57) = false := decide_eq_false (by omega)
     have hd : isDig R = true := by simp [isDig, rd.1, rd.2]
     rw [if_pos hd] at hG
     have HG := Aside0.mk hG
     clear hG hd rd r95
     go_wp2_with (go_at_call 85; (with_reducible refine (C0.out _ (by first | exact HB.out | exact hb2)).mono ?_); rintro e w7 ⟨rfl, hb⟩; have n1_ := (hb.block _ HS.out).trans HI.out; have n0_ := Aside0.mk (HB.out.trans (hb.mono (Nat.le_trans hsz0 (Nat.le_of_lt HS.out)))); clear HB HI HS; have HB := n0_; have HI := Aside0.mk n1_; have HS := Aside0.mk (Array.getElem?_eq_some_iff.1 n1_).1; clear n0_ n1_ hb)
     go_roundg g'
     case measure => omega
     case rel => exact ⟨p + K, n + 1, HG, HI.out, HB, by omega, by omega, by omega⟩
    have hd : isDig R = false := by
     unfold isDig
     rcases Nat.lt_or_ge R 48 with h0 | h0
     ·simp; omega
     ·simp; omega
    rw [if_neg (by rw [hd]; decide)] at hG
    have HG := Aside0.mk hG
    clear hG hd
    by_cases rz : R = 65533
    ·have r0b : ((R : Int) == 65533) = true := by simp; omega
     have r2b : decide ((R : Int) < 48) = false := decide_eq_false (by omega)
     have r3b : decide ((R : Int) > 57) = true := decide_eq_true (by omega)
     have pb1 : (0 : Int) ≤ (p : Int) := by omega
     have pb2 : (p : Int) < (s.size : Int) := by omega
     have hx : ((s[p]'hp).toNat : Int) = bt s (p : Int) := bt_at s (p : Int) hp
     clear rz rd r95
     replace pb1 := eq_true pb1
     replace pb2 := eq_true pb2
     by_cases e239 : bt s (p : Int) = 239
     ·have eb : (bt s (p : Int) != 239) = false := by simp [e239]
      go_wp2_with (go_at_call 85; (with_reducible refine (C0.out _ (by first | exact HB.out | exact hb2)).mono ?_); rintro e w7 ⟨rfl, hb⟩; have n1_ := (hb.block _ HS.out).trans HI.out; have n0_ := Aside0.mk (HB.out.trans (hb.mono (Nat.le_trans hsz0 (Nat.le_of_lt HS.out)))); clear HB HI HS; have HB := n0_; have HI := Aside0.mk n1_; have HS := Aside0.mk (Array.getElem?_eq_some_iff.1 n1_).1; clear n0_ n1_ hb)
      go_ret
      exact ⟨by rw [← HG.out]; rfl, HB.out⟩
     ·have eb : (bt s (p : Int) != 239) = true := by simp [e239]
      clear e239
      go_wp2_with (go_at_call 85; (with_reducible refine (C0.out _ (by first | exact HB.out | exact hb2)).mono ?_); rintro e w7 ⟨rfl, hb⟩; have n1_ := (hb.block _ HS.out).trans HI.out; have n0_ := Aside0.mk (HB.out.trans (hb.mono (Nat.le_trans hsz0 (Nat.le_of_lt HS.out)))); clear HB HI HS; have HB := n0_; have HI := Aside0.mk n1_; have HS := Aside0.mk (Array.getElem?_eq_some_iff.1 n1_).1; clear n0_ n1_ hb)
      go_ret
      exact ⟨by rw [← HG.out]; rfl, HB.out⟩
    have r0b : ((R : Int) == 65533) = false := by simp; omega
    by_cases r48 : R < 48
    ·have r2b : decide ((R : Int) < 48) = true := decide_eq_true (by omega)
     clear rz rd r95
     go_wp2_with (go_at_call 85; (with_reducible refine (C0.out _ (by first | exact HB.out | exact hb2)).mono ?_); rintro e w7 ⟨rfl, hb⟩; have n1_ := (hb.block _ HS.out).trans HI.out; have n0_ := Aside0.mk (HB.out.trans (hb.mono (Nat.le_trans hsz0 (Nat.le_of_lt HS.out)))); clear HB HI HS; have HB := n0_; have HI := Aside0.mk n1_; have HS := Aside0.mk (Array.getElem?_eq_some_iff.1 n1_).1; clear n0_ n1_ hb)
     go_ret
     exact ⟨by rw [← HG.out]; rfl, HB.out⟩
    ·have r2b : decide ((R : Int) < 48) = false := decide_eq_false (by omega)
     have r3b : decide ((R : Int) > 57) = true := decide_eq_true (by omega)
     clear rz rd r95
     go_wp2_with (go_at_call 85; (with_reducible refine (C0.out _ (by first | exact HB.out | exact hb2)).mono ?_); rintro e w7 ⟨rfl, hb⟩; have n1_ := (hb.block _ HS.out).trans HI.out; have n0_ := Aside0.mk (HB.out.trans (hb.mono (Nat.le_trans hsz0 (Nat.le_of_lt HS.out)))); clear HB HI HS; have HB := n0_; have HI := Aside0.mk n1_; have HS := Aside0.mk (Array.getElem?_eq_some_iff.1 n1_).1; clear n0_ n1_ hb)
     go_ret
     exact ⟨by rw [← HG.out]; rfl, HB.out⟩
  ·have hnx : ∀ ty, (Instr.next (.pointer (some ⟨w7.heap.size, 0, none⟩)) true ty).run Tryz.prog wr = _ := fun ty => Lib.run_next_end_at wr w7.heap.size s p ty hit hp
   have hG := HG.out
   rw [runesF_end s gk p hp] at hG
   simp only [goodF] at hG
   have HG2 := Aside0.mk hG
   clear hG HG
   go_wp2
   go_ret
   exact ⟨by rw [← HG2.out]; rfl, HB.out⟩

def lim : Nat := 4398046511104
def name_Good.f (a0 : ByteArray) : Option Bool := if a0.size ≤ lim then some (goodB a0) else none
theorem name_Good.calls (a0 : ByteArray) (r : Bool) (w : World) (hTb : Tab w) (h : name_Good.f a0 = some r) :
  Calls Tryz.prog 61 #[.string a0] w fun e w' => e = .returned (.bool r) ∧ Below w.heap.size w w' := by
 unfold name_Good.f at h
 split at h
 ·obtain rfl := Option.some.inj h
  exact good_c a0 w (by unfold lim at *; omega) hTb
 ·cases h

end Go.Proofs.YtobkfbkhcghaeaaGreatDoor.PGd
