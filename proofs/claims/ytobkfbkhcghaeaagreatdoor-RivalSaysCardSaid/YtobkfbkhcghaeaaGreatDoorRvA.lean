/- Sorting by a closure: cmp.Compare, the closures of job.ByDeadline and rival.kept, slices.SortStableFunc at fewer than twenty numbers. 
-- slim A row of the call's own, sorted in place. 
-- slim A stable sort of numbers by a key, in plain lists. 
-- slim slices.SortStableFunc over a row of the call's own, by the closures of job.ByDeadline and rival.kept. 
-- slim job.ByDeadline: all places, by deadline. 
-- slim edf.run: who may run, who runs: the closure, slices.IndexFunc, the ticks. 
-- slim edf.run: jobs by their deadlines, each for as long as it needs. 
-- slim -/
import Derived.Test.YtobkfbkhcghaeaaGreatDoorPRvx1
import Derived.Test.YtobkfbkhcghaeaaGreatDoorShelf
import Derived.Deep.QuietTactic
import Derived.BigQuiet
import Derived.Sort.LotA
import Derived.OrdersHeld
namespace Go.Proofs.YtobkfbkhcghaeaaGreatDoor.PRv
open Go.RowKit Go.Proofs.YtobkfbkhcghaeaaGreatDoor.PRv Go.Proofs.YtobkfbkhcghaeaaGreatDoorW.PrintWords Go.Proofs.YtobkfbkhcghaeaaGreatDoorW.PrintLast Go.Proofs.YtobkfbkhcghaeaaGreatDoorW.PrintMore Go.Shelf Go.Sort
set_option linter.unusedVariables false
set_option linter.unusedSimpArgs false

def cmpI (x y : Int) : Int := if x < y then -1 else if x > y then 1 else 0
theorem nan_c (x : Int) (w : World) : Calls Tryz.prog 66 #[.int .i64 x] w fun e w' => e = .returned (.bool false) ∧ w' = w := by
 have h : (x != x) = false := by simp
 go_enter Tryz.func66, Tryz.ntmps66
 go_wp2
 go_ret
 exact ⟨rfl, rfl⟩
theorem cmp_c (x y : Int) (w : World) : Calls Tryz.prog 46 #[.int .i64 x, .int .i64 y] w fun e w' => e = .returned (.int .i64 (cmpI x y)) ∧ w' = w := by
 unfold cmpI
 have N := Aside0.mk (fun (z : Int) => nan_c z w)
 by_cases h1 : x < y
 ·rw [if_pos h1]
  have e1 : decide (x < y) = true := decide_eq_true h1
  clear h1
  go_enter Tryz.func46, Tryz.ntmps46
  go_wp2_with (go_at_call 66; (with_reducible refine (N.out _).mono ?_); rintro e w' ⟨rfl, rfl⟩)
  go_ret
  exact ⟨rfl, rfl⟩
 rw [if_neg h1]
 have e1 : decide (x < y) = false := decide_eq_false h1
 by_cases h2 : x > y
 ·rw [if_pos h2]
  have e2 : decide (y < x) = true := decide_eq_true h2
  clear h1 h2
  go_enter Tryz.func46, Tryz.ntmps46
  go_wp2_with (go_at_call 66; (with_reducible refine (N.out _).mono ?_); rintro e w' ⟨rfl, rfl⟩)
  go_ret
  exact ⟨rfl, rfl⟩
 ·rw [if_neg h2]
  have e2 : decide (y < x) = false := decide_eq_false h2
  clear h1 h2
  go_enter Tryz.func46, Tryz.ntmps46
  go_wp2_with (go_at_call 66; (with_reducible refine (N.out _).mono ?_); rintro e w' ⟨rfl, rfl⟩)
  go_ret
  exact ⟨rfl, rfl⟩
/-- Where the captured slice of jobs lies, and what it holds. -/
structure Cap (w : World) (L : Nat) (A : Option Addr) (n c : Nat) (l : List S45) : Prop where
 box : w.cell? ⟨L, 0, none⟩ = some (.slice A n c)
 row : Kd.C k45 w A n l
theorem dead_c (w : World) (L : Nat) (A : Option Addr) (n c : Nat) (l : List S45) (h : Cap w L A n c l) (i j : Int) (hi0 : 0 ≤ i) (hi : i < n) (hj0 : 0 ≤ j) (hj : j < n) :
  Calls Tryz.prog 96 #[.int .i64 i, .int .i64 j, .pointer (some ⟨L, 0, none⟩)] w fun e w' => e = .returned (.int .i64 (cmpI (rd_T45 l i).f2 (rd_T45 l j).f2)) ∧ ∃ q, w' = w.drewN q := by
 obtain ⟨hb, hr⟩ := h
 obtain ⟨a, e, p0, p1, p2, p3, p4, p5, p6, p7⟩ := at_T45 hr i hi0 hi
 subst e
 obtain ⟨a', e, q0, q1, q2, q3, q4, q5, q6, q7⟩ := at_T45 hr j hj0 hj
 injection e with e
 subst e
 clear hr p0 p1 p3 p4 p5 p6 p7 q0 q1 q3 q4 q5 q6 q7
 generalize (rd_T45 l i).f2 = x at *
 generalize (rd_T45 l j).f2 = y at *
 have CC := Aside0.mk (fun (w : World) => cmp_c x y w)
 generalize cmpI x y = r at *
 go_enter Tryz.func96, Tryz.ntmps96
 go_wp2
 go_quiet ((go_at_call 46; exact Calls.quiet_of_same (CC.out _)))
 go_wp2
 go_ret
 exact ⟨rfl, _, rfl⟩
theorem kept_c (w : World) (L : Nat) (A : Option Addr) (n c : Nat) (l : List S45) (h : Cap w L A n c l) (i j : Int) (hi0 : 0 ≤ i) (hi : i < n) (hj0 : 0 ≤ j) (hj : j < n) :
  Calls Tryz.prog 45 #[.int .i64 i, .int .i64 j, .pointer (some ⟨L, 0, none⟩)] w fun e w' => e = .returned (.int .i64 (cmpI (rd_T45 l j).f5 (rd_T45 l i).f5)) ∧ ∃ q, w' = w.drewN q := by
 obtain ⟨hb, hr⟩ := h
 obtain ⟨a, e, p0, p1, p2, p3, p4, p5, p6, p7⟩ := at_T45 hr i hi0 hi
 subst e
 obtain ⟨a', e, q0, q1, q2, q3, q4, q5, q6, q7⟩ := at_T45 hr j hj0 hj
 injection e with e
 subst e
 clear hr p0 p1 p2 p3 p4 p6 p7 q0 q1 q2 q3 q4 q6 q7
 generalize (rd_T45 l i).f5 = x at *
 generalize (rd_T45 l j).f5 = y at *
 have CC := Aside0.mk (fun (w : World) => cmp_c y x w)
 generalize cmpI y x = r at *
 go_enter Tryz.func45, Tryz.ntmps45
 go_wp2
 go_quiet ((go_at_call 46; exact Calls.quiet_of_same (CC.out _)))
 go_wp2
 go_ret
 exact ⟨rfl, _, rfl⟩
set_option maxHeartbeats 1000000 in
theorem stable_c {α : Type} [Inhabited α] (enc : α → Value) (hO : OneCell enc) (cf : α → α → Int) (g : Nat) (cb : Array Value) (blk off cap : Nat) (d : Array α) (w : World)
  (eg : ∀ args w, (callFunc g args).run Tryz.prog w = .ok (.enter g args) w) (hcmp : CmpReads Tryz.prog g cb enc cf blk off d.size w) (hH : Holds enc w blk off d) (hn : d.size < 20) :
  Calls Tryz.prog 65 #[.slice (some ⟨blk, off, none⟩) d.size cap, .int .i64 d.size, .func (.func g) #[] cb] w fun e w' =>
   e = .returned (.tuple #[]) ∧ ∃ n, w' = (putRow enc w blk off (Sort.insertionSort (ltOf cf) d 0 d.size)).drewN n := by
 have C : Aside0 (Calls Tryz.prog 89 #[.slice (some ⟨blk, off, none⟩) d.size cap, .int .i64 0, .int .i64 d.size, .func (.func g) #[] cb] w fun e w' => e = .returned (.tuple #[]) ∧ ∃ n, w' = (putRow enc w blk off (Sort.insertionSort (ltOf cf) d 0 d.size)).drewN n) := ⟨Tryz.insertionSort_one enc hO cf g cb blk off cap 0 d.size d w eg hcmp hH (Nat.zero_le _) (Nat.le_refl _) (by omega)⟩
 clear hcmp hH hO
 generalize putRow enc w blk off (Sort.insertionSort (ltOf cf) d 0 d.size) = W2 at *
 have e1 : decide ((20 : Int) ≤ (d.size : Int)) = false := decide_eq_false (by omega)
 have e2 : decide ((20 : Int) < (d.size : Int)) = false := decide_eq_false (by omega)
 have e3 : decide (20 ≤ d.size) = false := decide_eq_false (by omega)
 have e4 : decide (20 < d.size) = false := decide_eq_false (by omega)
 go_enter Tryz.func65, Tryz.ntmps65
 go_wp2
 go_loop [7, 8] (fun b c => b = .int .i64 0 ∧ c = .int .i64 20) (fun _ _ => 0)
 case atStart => exact ⟨rfl, rfl⟩
 case round =>
  obtain ⟨rfl, rfl⟩ := hrel
  go_wp2_with (go_at_call 89; (with_reducible refine (C.out).mono ?_); rintro e w' ⟨rfl, n, rfl⟩)
  go_loop [6] (fun a => a = .int .i64 20) (fun _ => 0)
  case atStart => rfl
  case round =>
   subst hrel
   go_wp2
   exact bodyPost_end (v := .tuple #[]) (by simp [results, Tryz.results65, go_sem]) rfl ⟨rfl, n, rfl⟩

end Go.Proofs.YtobkfbkhcghaeaaGreatDoor.PRv
namespace Go.Proofs.YtobkfbkhcghaeaaGreatDoor.PRv
open Go.RowKit Go.Proofs.YtobkfbkhcghaeaaGreatDoor.PRv Go.Proofs.YtobkfbkhcghaeaaGreatDoorW.PrintWords Go.Proofs.YtobkfbkhcghaeaaGreatDoorW.PrintLast Go.Proofs.YtobkfbkhcghaeaaGreatDoorW.PrintMore Go.Shelf Go.Sort
set_option linter.unusedVariables false
set_option linter.unusedSimpArgs false

abbrev encF {n : Nat} (i : Fin n) : Value := .int .i64 (i.val : Int)
theorem encF_one {n : Nat} : OneCell (encF (n := n)) := fun _ => rfl
theorem putRow_heap {α : Type} [Inhabited α] (enc : α → Value) (w : World) (g off : Nat) (d : Array α) (k : Nat) : (putRow enc w g off d).heap[k]? = if g = k then (w.heap[k]?).map (onCells (putCells enc off d)) else w.heap[k]? := by
 unfold putRow mapBlock
 simp only [Array.getElem?_modify]
def nI (l : List Nat) : List Int := l.map fun i : Nat => (i : Int)
theorem nI_len (l : List Nat) : (nI l).length = l.length := List.length_map ..
theorem R_sorted {k n : Nat} {e base g cap : Nat} {w : World} {ok : Nat → Prop} {xs : List Int} [Inhabited (Fin k)] (h : (Kd.int .i64).R e w base ok (.slice (some ⟨g, 0, none⟩) n cap) xs) (d : Array (Fin k)) (hd : d.size = n) :
  (Kd.int .i64).R e (putRow encF w g 0 d) base ok (.slice (some ⟨g, 0, none⟩) n cap) (d.toList.map fun i => (i.val : Int)) := by
 have hok := h.1
 have ho := Kd.own_of_R h
 obtain ⟨hl, ho⟩ := ho
 have hln : (d.toList.map fun i => (i.val : Int)).length = n := by simp [hd]
 refine Kd.R_of_own ?_ hok
 rw [hln]
 refine ⟨by simp [encs, hd], ?_⟩
 rcases ho with ⟨h1, _⟩ | ⟨g', cap', cur, h1, h2, h3, h4, h5, h6, h7⟩
 ·cases h1
 ·injection h1 with e1 e2 e3
  injection e1 with e1
  injection e1 with e1
  subst e1 e3
  refine .inr ⟨g, cap, putCells encF 0 d cur, rfl, h2, ?_, by omega, h5, by simpa [putCells] using h6, ?_⟩
  ·rw [putRow_heap, if_pos rfl, h3]
   rfl
  ·have hcs : n ≤ cur.size := by omega
   apply List.ext_getElem?
   intro j
   rw [List.getElem?_take, Nat.mul_one]
   by_cases hj : j < n
   ·rw [if_pos hj]
    simp only [putCells, encs, Array.getElem?_toList, Array.getElem?_mapIdx, List.getElem?_map]
    rw [Array.getElem?_eq_getElem (show j < cur.size by omega), Option.map_some, if_pos ⟨Nat.zero_le _, by omega⟩, Nat.sub_zero, Array.getElem?_eq_getElem (show j < d.size by omega), Option.map_some, Option.map_some, getElem!_pos d j (by omega)]
   ·rw [if_neg hj]
    symm
    rw [List.getElem?_eq_none]
    simp [encs, hd]
    omega
theorem below_sorted {α : Type} [Inhabited α] (enc : α → Value) {b g off : Nat} {w0 w : World} (d : Array α) (h : Below b w0 w) (hb : b ≤ g) : Below b w0 (putRow enc w g off d) := by
 refine ⟨h.os, h.tape, h.output, Nat.le_trans h.size ?_, fun k hk => ?_⟩
 ·unfold putRow mapBlock
  simp
 ·rw [putRow_heap, if_neg (by omega)]
  exact h.block k hk
/-- Another block stays. -/
theorem blk_sorted {α : Type} [Inhabited α] (enc : α → Value) {g off k : Nat} {w : World} {o : Obj} (d : Array α) (h : w.heap[k]? = some o) (hne : g ≠ k) : (putRow enc w g off d).heap[k]? = some o := by
 rw [putRow_heap, if_neg hne, h]

end Go.Proofs.YtobkfbkhcghaeaaGreatDoor.PRv
namespace Go.Proofs.YtobkfbkhcghaeaaGreatDoor.PRv
open Go.RowKit Go.Proofs.YtobkfbkhcghaeaaGreatDoor.PRv Go.Proofs.YtobkfbkhcghaeaaGreatDoorW.PrintWords Go.Proofs.YtobkfbkhcghaeaaGreatDoorW.PrintLast Go.Proofs.YtobkfbkhcghaeaaGreatDoorW.PrintMore Go.Sort
set_option linter.unusedVariables false
set_option linter.unusedSimpArgs false

def ltI {α : Type} (key : α → Int) (rank : α → Nat) (x y : α) : Bool := decide (key x < key y ∨ key x = key y ∧ rank x < rank y)
def ltK {α : Type} (key : α → Int) (x y : α) : Bool := decide (key x < key y)
theorem swo {α : Type} (key : α → Int) (rank : α → Nat) : SWO (ltI key rank) := by
 refine ⟨fun x => ?_, fun x y z h1 h2 => ?_, fun x y z h1 h2 => ?_⟩
 ·exact decide_eq_false (by omega)
 ·have := of_decide_eq_true h1; have := of_decide_eq_true h2; exact decide_eq_true (by omega)
 ·have := of_decide_eq_false h1; have := of_decide_eq_false h2; exact decide_eq_false (by omega)
section
variable {α : Type} [Inhabited α]
theorem inner_keep (lt : α → α → Bool) (p : α → Prop) : ∀ (j : Nat) (d : Array α), j < d.size → (∀ k, k ≤ j → p d[k]!) → (∀ k, k ≤ j → p (insInner lt 0 j d)[k]!) ∧ (∀ k, j < k → (insInner lt 0 j d)[k]! = d[k]!) ∧ (insInner lt 0 j d).size = d.size
 | 0, d, _, h => ⟨h, fun _ _ => rfl, rfl⟩
 | j + 1, d, hj, h => by
  unfold insInner
  split
  ·have hs : (swp d (j + 1) j).size = d.size := by simp [swp]
   have g1 : ∀ k, (swp d (j + 1) j)[k]! = if k = j then d[j + 1]! else if k = j + 1 then d[j]! else d[k]! := by
    intro k
    unfold swp
    by_cases e1 : k = j
    ·subst e1
     rw [if_pos rfl, Go.Sort.getElem!_set_same _ _ _ (by simp; omega)]
    ·rw [if_neg e1, Go.Sort.getElem!_set_other _ _ _ _ e1]
     by_cases e2 : k = j + 1
     ·subst e2
      rw [if_pos rfl, Go.Sort.getElem!_set_same _ _ _ hj]
     ·rw [if_neg e2, Go.Sort.getElem!_set_other _ _ _ _ e2]
   have ih := inner_keep lt p j (swp d (j + 1) j) (by omega) (fun k hk => by
    rw [g1]
    split
    ·exact h _ (Nat.le_refl _)
    ·rw [if_neg (by omega)]; exact h k (by omega))
   refine ⟨fun k hk => ?_, fun k hk => ?_, ih.2.2.trans hs⟩
   ·by_cases e : k ≤ j
    ·exact ih.1 k e
    ·rw [ih.2.1 k (by omega), g1, if_neg (by omega), if_pos (by omega)]
     exact h j (by omega)
   ·rw [ih.2.1 k (by omega), g1, if_neg (by omega), if_neg (by omega)]
  ·exact ⟨h, fun _ _ => rfl, rfl⟩
theorem inner_same (lt lt' : α → α → Bool) (rank : α → Nat) (hl : ∀ x y, rank y < rank x → lt x y = lt' x y) (x : α) : ∀ (j : Nat) (d : Array α), j < d.size → d[j]! = x → (∀ k, k < j → rank d[k]! < rank x) → insInner lt 0 j d = insInner lt' 0 j d
 | 0, _, _, _, _ => rfl
 | j + 1, d, hj, hx, h => by
  unfold insInner
  rw [hx, hl x d[j]! (h j (by omega))]
  split
  ·refine inner_same lt lt' rank hl x j _ (by simp [swp]; omega) ?_ ?_
   ·unfold swp
    rw [Go.Sort.getElem!_set_same _ _ _ (by simp; omega), hx]
   ·intro k hk
    unfold swp
    rw [Go.Sort.getElem!_set_other _ _ _ _ (by omega), Go.Sort.getElem!_set_other _ _ _ _ (by omega)]
    exact h k (by omega)
  ·rfl
theorem outer_go (lt : α → α → Bool) (a b i : Nat) (d : Array α) (h : i < b) : insOuter lt a b i d = insOuter lt a b (i + 1) (insInner lt a i d) := by
 rw [insOuter, if_pos h]
theorem outer_stop (lt : α → α → Bool) (a b i : Nat) (d : Array α) (h : ¬ i < b) : insOuter lt a b i d = d := by
 rw [insOuter, if_neg h]
theorem outer_same (lt lt' : α → α → Bool) (rank : α → Nat) (hl : ∀ x y, rank y < rank x → lt x y = lt' x y) (d : Array α) (b : Nat) (hb : b ≤ d.size) (hd : ∀ i j, i < j → j < b → rank d[i]! < rank d[j]!) :
  ∀ (f i : Nat) (dk : Array α), b - i ≤ f → dk.size = d.size → (∀ k, i ≤ k → dk[k]! = d[k]!) → (∀ k m, k < i → i ≤ m → m < b → rank dk[k]! < rank d[m]!) → insOuter lt 0 b i dk = insOuter lt' 0 b i dk := by
 intro f
 induction f with
 | zero =>
  intro i dk hf hs h1 h2
  rw [outer_stop _ _ _ _ _ (by omega), outer_stop _ _ _ _ _ (by omega)]
 | succ f ih =>
  intro i dk hf hs h1 h2
  by_cases hi : i < b
  ·rw [outer_go _ _ _ _ _ hi, outer_go _ _ _ _ _ hi, inner_same lt lt' rank hl d[i]! i dk (by omega) (h1 i (Nat.le_refl _)) (fun k hk => h2 k i hk (Nat.le_refl _) hi)]
   have hk := fun m (hm : i + 1 ≤ m) (hmb : m < b) => inner_keep lt' (fun y => rank y < rank d[m]!) i dk (by omega) (fun k hk => by
    by_cases e : k = i
    ·subst e; rw [h1 k (Nat.le_refl _)]; exact hd k m (by omega) hmb
    ·exact h2 k m (by omega) (by omega) hmb)
   have hk0 := inner_keep lt' (fun _ => True) i dk (by omega) (fun _ _ => trivial)
   refine ih (i + 1) _ (by omega) (hk0.2.2.trans hs) (fun k hk2 => by rw [hk0.2.1 k (by omega)]; exact h1 k (by omega)) (fun k m hk1 hm hmb => (hk m hm hmb).1 k (by omega))
  ·rw [outer_stop _ _ _ _ _ hi, outer_stop _ _ _ _ _ hi]
theorem sort_same (key : α → Int) (rank : α → Nat) (d : Array α) (hd : ∀ i j, i < j → j < d.size → rank d[i]! < rank d[j]!) : insertionSort (ltK key) d 0 d.size = insertionSort (ltI key rank) d 0 d.size := by
 refine outer_same (ltK key) (ltI key rank) rank (fun x y h => ?_) d d.size (Nat.le_refl _) hd d.size (0 + 1) d (by omega) rfl (fun _ _ => rfl) (fun k m hk hm hmb => hd k m (by omega) hmb)
 unfold ltK ltI
 rw [decide_eq_decide]
 omega
end
def leK (key : Nat → Int) (x y : Nat) : Bool := decide (key x < key y ∨ key x = key y ∧ x ≤ y)
def insK (le : Nat → Nat → Bool) (x : Nat) : List Nat → List Nat
 | [] => [x]
 | y :: t => if le x y = true then x :: y :: t else y :: insK le x t
/-- Sorted by the key, alike ones by themselves. -/
def srt (key : Nat → Int) : List Nat → List Nat
 | [] => []
 | x :: t => insK (leK key) x (srt key t)
theorem insK_perm (le : Nat → Nat → Bool) (x : Nat) : ∀ l, (insK le x l).Perm (x :: l)
 | [] => List.Perm.refl _
 | y :: t => by
  unfold insK
  split
  ·exact List.Perm.refl _
  ·exact ((insK_perm le x t).cons y).trans (List.Perm.swap x y t)
theorem srt_perm (key : Nat → Int) : ∀ l, (srt key l).Perm l
 | [] => List.Perm.refl _
 | x :: t => (insK_perm _ x _).trans ((srt_perm key t).cons x)
theorem leK_trans {key : Nat → Int} {x y z : Nat} (h1 : leK key x y = true) (h2 : leK key y z = true) : leK key x z = true := by
 have := of_decide_eq_true h1; have := of_decide_eq_true h2; exact decide_eq_true (by omega)
theorem insK_sorted (key : Nat → Int) (x : Nat) : ∀ l, l.Pairwise (fun a b => leK key a b = true) → (insK (leK key) x l).Pairwise (fun a b => leK key a b = true)
 | [], _ => List.pairwise_singleton _ _
 | y :: t, h => by
  have h2 := List.pairwise_cons.1 h
  unfold insK
  split
  ·rename_i hxy
   refine List.pairwise_cons.2 ⟨fun z hz => ?_, h⟩
   rcases List.mem_cons.1 hz with rfl | hz
   ·exact hxy
   ·exact leK_trans hxy (h2.1 z hz)
  ·rename_i hxy
   refine List.pairwise_cons.2 ⟨fun z hz => ?_, insK_sorted key x t h2.2⟩
   rcases List.mem_cons.1 ((insK_perm _ x t).mem_iff.1 hz) with rfl | hz
   ·have : leK key z y = false := by cases hh : leK key z y with | true => exact absurd hh hxy | false => rfl
    have := of_decide_eq_false this
    exact decide_eq_true (by omega)
   ·exact h2.1 z hz
theorem srt_sorted (key : Nat → Int) : ∀ l, (srt key l).Pairwise (fun a b => leK key a b = true)
 | [] => List.Pairwise.nil
 | x :: t => insK_sorted key x _ (srt_sorted key t)
theorem uniq_sorted (key : Nat → Int) : ∀ (a b : List Nat), a.Perm b → a.Pairwise (fun x y => leK key x y = true) → b.Pairwise (fun x y => leK key x y = true) → a = b
 | [], b, h, _, _ => (List.Perm.nil_eq h)
 | x :: a, [], h, _, _ => absurd h.length_eq (by simp)
 | x :: a, y :: b, h, ha, hb => by
  have ha2 := List.pairwise_cons.1 ha
  have hb2 := List.pairwise_cons.1 hb
  have e : x = y := by
   rcases List.mem_cons.1 (h.mem_iff.1 (List.mem_cons_self ..)) with h1 | h1
   ·exact h1
   rcases List.mem_cons.1 (h.symm.mem_iff.1 (List.mem_cons_self ..)) with h2 | h2
   ·exact h2.symm
   have := of_decide_eq_true (hb2.1 x h1); have := of_decide_eq_true (ha2.1 y h2)
   omega
  subst e
  rw [uniq_sorted key a b ((List.perm_cons x).1 h) ha2.2 hb2.2]
/-- What the library's stable sort leaves of an ascending row. -/
theorem sorted_is {n : Nat} [Inhabited (Fin n)] (key : Nat → Int) (d : Array (Fin n)) (hd : ∀ i j, i < j → j < d.size → d[i]!.val < d[j]!.val) :
  (insertionSort (ltK fun i : Fin n => key i.val) d 0 d.size).toList.map (fun i => i.val) = srt key (d.toList.map fun i => i.val) ∧ (insertionSort (ltK fun i : Fin n => key i.val) d 0 d.size).size = d.size := by
 rw [sort_same (fun i : Fin n => key i.val) (fun i => i.val) d hd]
 obtain ⟨⟨hs, _, hp⟩, hso⟩ := insertionSort_holds (lt := ltI (fun i : Fin n => key i.val) (fun i => i.val)) (swo _ _) d 0 d.size (Nat.zero_le _) (Nat.le_refl _)
 generalize insertionSort (ltI (fun i : Fin n => key i.val) (fun i => i.val)) d 0 d.size = d' at *
 refine ⟨uniq_sorted key _ _ ?_ ?_ (srt_sorted key _), hs⟩
 ·have e1 : d'.extract 0 d.size = d' := by rw [← hs]; exact Array.extract_size ..
  have e2 : d.extract 0 d.size = d := Array.extract_size ..
  rw [e1, e2] at hp
  exact (hp.map _).trans (srt_perm key _).symm
 ·rw [List.pairwise_map, List.pairwise_iff_getElem]
  intro i j hi hj hij
  rw [Array.length_toList] at hi hj
  have := hso i j (Nat.zero_le _) hij (by omega)
  rw [getElem!_pos _ i (by omega), getElem!_pos _ j (by omega)] at this
  have := of_decide_eq_false this
  rw [Array.getElem_toList, Array.getElem_toList]
  refine decide_eq_true ?_
  simp only at this
  omega

end Go.Proofs.YtobkfbkhcghaeaaGreatDoor.PRv
namespace Go.Proofs.YtobkfbkhcghaeaaGreatDoor.PRv
open Go.RowKit Go.Proofs.YtobkfbkhcghaeaaGreatDoor.PRv Go.Proofs.YtobkfbkhcghaeaaGreatDoorW.PrintWords Go.Proofs.YtobkfbkhcghaeaaGreatDoorW.PrintLast Go.Proofs.YtobkfbkhcghaeaaGreatDoorW.PrintMore Go.Shelf Go.Sort
set_option linter.unusedVariables false
set_option linter.unusedSimpArgs false

theorem below_sw {α : Type} [Inhabited α] (enc : α → Value) {b g off m : Nat} {w0 w : World} (d : Array α) (os : Array Obj) (h : Below b w0 w) (hb : b ≤ g) (hbw : b ≤ w.heap.size) : Below b w0 (sortWorld enc w g off m d os) := by
 have h1 : Below b w0 (Sort.ahead w m) := ⟨h.os, h.tape, h.output, h.size, h.block⟩
 have h2 := below_sorted enc (off := off) d h1 hb
 refine ⟨h2.os, h2.tape, h2.output, ?_, fun k hk => ?_⟩
 ·have := h2.size
  unfold sortWorld grow
  simp only [Array.size_append]
  omega
 ·rw [← h2.block k hk]
  unfold sortWorld grow
  have hs : (putRow enc (Sort.ahead w m) g off d).heap.size = w.heap.size := by
   unfold putRow mapBlock
   simp [Sort.ahead]
  show ((putRow enc (Sort.ahead w m) g off d).heap ++ os)[k]? = _
  rw [Array.getElem?_append_left (by omega)]
theorem Cap.below {w0 w : World} {L : Nat} {A : Option Addr} {n c : Nat} {l : List S45} (h : Cap w0 L A n c l) (hb : Below w0.heap.size w0 w) (hL : L < w0.heap.size) : Cap w L A n c l :=
 ⟨(hb.cell (p := ⟨L, 0, none⟩) hL).trans h.box, Kd.C_below h.row hb⟩
theorem lt_key {n : Nat} (key : Nat → Int) : ltOf (fun x y : Fin n => cmpI (key x.val) (key y.val)) = ltK (fun i : Fin n => key i.val) := by
 funext x y
 unfold ltOf ltK cmpI
 rw [decide_eq_decide]
 dsimp only
 split
 ·rename_i h; simp [h]
 split
 ·rename_i h1 h2; simp; omega
 ·rename_i h1 h2; simp; omega
/-- What becomes of the row: sorted; every other block stays. -/
def Sorted (w0 w : World) (base : Nat) (ok : Nat → Prop) (G m cap : Nat) (key : Nat → Int) (is : List Nat) (e : Ending) (w' : World) : Prop :=
 e = .returned (.tuple #[]) ∧ (Kd.int .i64).R 3 w' base ok (.slice (some ⟨G, 0, none⟩) m cap) (nI (srt key is)) ∧ Below base w0 w' ∧ w'.heap.size = w.heap.size ∧ ∀ k o, w.heap[k]? = some o → k ≠ G → w'.heap[k]? = some o
theorem stab_own (g : Nat) (key : Nat → Int) (cb : Array Value) (eg : ∀ args w, (callFunc g args).run Tryz.prog w = .ok (.enter g args) w) (w0 w : World) (n G m cap : Nat) (ok : Nat → Prop) (is : List Nat)
  (hc : ∀ w, Below w0.heap.size w0 w → ∀ i j : Fin n, Calls Tryz.prog g (#[encF i, encF j] ++ cb) w fun e w' => e = .returned (.int .i64 (cmpI (key i.val) (key j.val))) ∧ ∃ q, w' = w.drewN q)
  (hR : (Kd.int .i64).R 3 w w0.heap.size ok (.slice (some ⟨G, 0, none⟩) m cap) (nI is)) (hB : Below w0.heap.size w0 w) (hi : ∀ i ∈ is, i < n) (ha : is.Pairwise (· < ·)) (hm : m < 20) (hm0 : 0 < m) :
  Calls Tryz.prog 65 #[.slice (some ⟨G, 0, none⟩) m cap, .int .i64 m, .func (.func g) #[] cb] w (Sorted w0 w w0.heap.size ok G m cap key is) := by
 have hml : m = is.length := by have := (Kd.R_reads' hR).1; rwa [nI_len] at this
 have hgb := Kd.R_base hR G rfl
 obtain ⟨i0, hi0⟩ : ∃ i0, i0 ∈ is := ⟨is[0]'(by omega), List.getElem_mem _⟩
 have hn : 0 < n := by have := hi i0 hi0; omega
 haveI : Inhabited (Fin n) := ⟨⟨0, hn⟩⟩
 obtain ⟨d, hd⟩ : ∃ d : Array (Fin n), d.toList.map (fun i => i.val) = is := by
  refine ⟨(is.attach.map fun i => (⟨i.1, hi i.1 i.2⟩ : Fin n)).toArray, ?_⟩
  simp [List.map_map, Function.comp_def]
 have hds : d.size = m := by rw [hml, ← hd]; simp
 have hdi : ∀ j, j < m → (d[j]!).val = is.getD j 0 := by
  intro j hj
  rw [getElem!_pos d j (by omega), List.getD_eq_getElem?_getD]
  conv => rhs; rw [← hd]
  rw [List.getElem?_map, Array.getElem?_toList, Array.getElem?_eq_getElem (by omega)]
  rfl
 have hH : Holds encF w G 0 d := by
  intro j hj
  have h1 := Kd.R_celln 0 hR (j : Int) (by omega) (by omega)
  rw [Int.toNat_natCast, show rdOf (0 : Int) (nI is) (j : Int) = ((d[j]!).val : Int) by
   rw [hdi j (by omega)]
   unfold rdOf nI
   rw [Int.toNat_natCast, List.getD_eq_getElem?_getD, List.getD_eq_getElem?_getD, List.getElem?_map]
   cases is[j]? <;> rfl] at h1
  rw [Nat.zero_add]
  exact h1
 have hcmp : CmpReads Tryz.prog g cb encF (fun x y : Fin n => cmpI (key x.val) (key y.val)) G 0 d.size w := by
  intro q os dk _ x y
  exact hc _ (below_sw encF dk os hB hgb (below_size hB)) x y
 have hst := stable_c encF encF_one (fun x y : Fin n => cmpI (key x.val) (key y.val)) g cb G 0 cap d w eg hcmp hH (by omega)
 rw [lt_key, hds] at hst
 have hsi := sorted_is key d (fun i j hij hj => by
  rw [hdi i (by omega), hdi j (by omega), List.getD_eq_getElem?_getD, List.getD_eq_getElem?_getD, List.getElem?_eq_getElem (by omega), List.getElem?_eq_getElem (by omega)]
  exact List.pairwise_iff_getElem.1 ha i j (by omega) (by omega) hij)
 rw [hd, hds] at hsi
 refine hst.mono ?_
 rintro e w' ⟨rfl, q, rfl⟩
 generalize insertionSort (ltK fun i : Fin n => key i.val) d 0 m = d' at *
 have hR2 := R_sorted hR d' hsi.2
 rw [show (d'.toList.map fun i => (i.val : Int)) = nI (srt key is) by rw [← hsi.1]; unfold nI; rw [List.map_map]; rfl] at hR2
 refine ⟨rfl, Kd.R_drewN hR2 q, pw_below_drewN (below_sorted encF d' hB hgb) q, ?_, fun k o ho hk => blk_sorted encF d' ho (fun e => hk e.symm)⟩
 unfold putRow mapBlock
 show (w.heap.modify G _).size = _
 simp

end Go.Proofs.YtobkfbkhcghaeaaGreatDoor.PRv
namespace Go.Proofs.YtobkfbkhcghaeaaGreatDoor.PRv
open Go.RowKit Go.Proofs.YtobkfbkhcghaeaaGreatDoor.PRv Go.Proofs.YtobkfbkhcghaeaaGreatDoorW.PrintWords Go.Proofs.YtobkfbkhcghaeaaGreatDoorW.PrintLast Go.Proofs.YtobkfbkhcghaeaaGreatDoorW.PrintMore Go.Shelf Go.Sort
set_option linter.unusedVariables false
set_option linter.unusedSimpArgs false

set_option maxHeartbeats 2000000
set_option maxRecDepth 100000
theorem ins_nil (A : Option Addr) (c g : Nat) (cb : Array Value) (w : World) : Calls Tryz.prog 89 #[.slice A 0 c, .int .i64 0, .int .i64 0, .func (.func g) #[] cb] w fun e w' => e = .returned (.tuple #[]) ∧ w' = w := by
 go_enter Tryz.func89, Tryz.ntmps89
 go_wp2
 go_loop [8] (fun a => a = .int .i64 1) (fun _ => 0)
 case atStart => rfl
 case round =>
  subst hrel
  go_wp2
  exact bodyPost_end (v := .tuple #[]) (by simp [results, Tryz.results89, go_sem]) rfl ⟨rfl, rfl⟩
theorem stab_nil (A : Option Addr) (c g : Nat) (cb : Array Value) (w : World) : Calls Tryz.prog 65 #[.slice A 0 c, .int .i64 0, .func (.func g) #[] cb] w fun e w' => e = .returned (.tuple #[]) ∧ w' = w := by
 have C := Aside0.mk (ins_nil A c g cb w)
 go_enter Tryz.func65, Tryz.ntmps65
 go_wp2
 go_loop [7, 8] (fun b c => b = .int .i64 0 ∧ c = .int .i64 20) (fun _ _ => 0)
 case atStart => exact ⟨rfl, rfl⟩
 case round =>
  obtain ⟨rfl, rfl⟩ := hrel
  go_wp2_with (go_at_call 89; (with_reducible refine (C.out).mono ?_); rintro e w' ⟨rfl, rfl⟩)
  go_loop [6] (fun a => a = .int .i64 20) (fun _ => 0)
  case atStart => rfl
  case round =>
   subst hrel
   go_wp2
   exact bodyPost_end (v := .tuple #[]) (by simp [results, Tryz.results65, go_sem]) rfl ⟨rfl, rfl⟩
theorem sort_fn (A : Option Addr) (m c g : Nat) (cb : Array Value) (w : World) (Q : Ending → World → Prop) (h : Calls Tryz.prog 65 #[.slice A m c, .int .i64 m, .func (.func g) #[] cb] w fun e w' => e = .returned (.tuple #[]) ∧ Q e w') :
  Calls Tryz.prog 44 #[.slice A m c, .func (.func g) #[] cb] w Q := by
 have C := Aside0.mk h
 clear h
 go_enter Tryz.func44, Tryz.ntmps44
 go_wp2_with (go_at_call 65; (with_reducible refine (C.out).mono ?_); rintro e w' ⟨rfl, hQ⟩)
 exact bodyPost_end (v := .tuple #[]) (by simp [results, Tryz.results44, go_sem]) rfl hQ
theorem sort_own (g : Nat) (key : Nat → Int) (cb : Array Value) (eg : ∀ args w, (callFunc g args).run Tryz.prog w = .ok (.enter g args) w) (w0 w : World) (n G m cap : Nat) (ok : Nat → Prop) (is : List Nat)
  (hc : ∀ w, RowKit.Below w0.heap.size w0 w → ∀ i j : Fin n, Calls Tryz.prog g (#[encF i, encF j] ++ cb) w fun e w' => e = .returned (.int .i64 (cmpI (key i.val) (key j.val))) ∧ ∃ q, w' = w.drewN q)
  (hR : (Kd.int .i64).R 3 w w0.heap.size ok (.slice (some ⟨G, 0, none⟩) m cap) (nI is)) (hB : RowKit.Below w0.heap.size w0 w) (hi : ∀ i ∈ is, i < n) (ha : is.Pairwise (· < ·)) (hm : m < 20) :
  Calls Tryz.prog 44 #[.slice (some ⟨G, 0, none⟩) m cap, .func (.func g) #[] cb] w (Sorted w0 w w0.heap.size ok G m cap key is) := by
 refine sort_fn _ _ _ _ _ _ _ ?_
 by_cases h0 : m = 0
 ·subst h0
  have hl := (Kd.R_reads' hR).1
  rw [nI_len] at hl
  obtain rfl := List.eq_nil_of_length_eq_zero hl.symm
  refine (stab_nil (some ⟨G, 0, none⟩) cap g cb w).mono ?_
  rintro e w' ⟨rfl, rfl⟩
  exact ⟨rfl, rfl, hR, hB, rfl, fun _ _ h _ => h⟩
 ·refine (stab_own g key cb eg w0 w n G m cap ok is hc hR hB hi ha hm (by omega)).mono ?_
  intro e w' h
  exact ⟨h.1, h⟩
def keyD (l : List S45) (i : Nat) : Int := (rd_T45 l (i : Int)).f2
def keyV (l : List S45) (i : Nat) : Int := -(rd_T45 l (i : Int)).f5
/-- All places, by deadline, alike ones as they stand. -/
def ordD (l : List S45) : List Nat := srt (keyD l) (List.range l.length)
theorem infoI : (Tryz.prog.info? 3).map (fun i => (i.zero, i.size, i.bytes)) = some (some (.int .i64 0), 1, 8) := by kernel_rfl
theorem range_step (n i : Nat) (hi : i < n) : ((List.range i).map (fun j : Nat => (j : Int)) ++ List.replicate (n - i) (0 : Int)).set i (i : Int) = (List.range (i + 1)).map (fun j : Nat => (j : Int)) ++ List.replicate (n - (i + 1)) 0 := by
 rw [List.set_append_right _ _ (by simp), List.length_map, List.length_range, Nat.sub_self, show n - i = (n - (i + 1)) + 1 by omega, List.replicate_succ, List.set_cons_zero, List.range_succ, List.map_append, List.append_assoc]
 rfl
theorem low_set {W0 W : World} {R : Nat} (hB : RowKit.Below W0.heap.size W0 W) (hg : W0.heap.size ≤ R) (i : Nat) (u : Value) : RowKit.Below W0.heap.size W0 (W.setCell ⟨R, i, none⟩ u) :=
 hB.setCell hg u
theorem make_form {e base n : Nat} {w : World} {ok : Nat → Prop} {v : Value} {x : Nat} (h : (Kd.int .i64).R e w base ok v (List.replicate ((n : Int)).toNat 0)) (hv : ∃ b, v.ownBlock = some b ∧ x ≤ b) :
  ∃ G cap, v = .slice (some ⟨G, 0, none⟩) n cap ∧ (Kd.int .i64).R e w base ok (.slice (some ⟨G, 0, none⟩) n cap) (((List.range 0).map fun j : Nat => (j : Int)) ++ List.replicate (n - 0) 0) ∧ x ≤ G := by
 obtain ⟨b, hb, hx⟩ := hv
 obtain ⟨_, ⟨e1, _⟩ | ⟨G, cap, cur, e1, _⟩⟩ := Kd.own_of_R h
 ·subst e1; cases hb
 ·rw [List.length_replicate, Int.toNat_natCast] at e1
  subst e1
  rw [Int.toNat_natCast] at h
  have : G = b := by simpa [Value.ownBlock] using hb
  subst this
  exact ⟨G, cap, rfl, h, hx⟩
theorem by_c (A : Option Addr) (c : Nat) (l : List S45) (W : World) (hr : Kd.C k45 W A l.length l) (hc : l.length ≤ c) (hn : l.length < 20) :
  Calls Tryz.prog 78 #[.slice A l.length c] W fun e w' => ∃ v, e = .returned v ∧ (Kd.int .i64).R 3 w' W.heap.size (fun _ => True) v (nI (ordD l)) ∧ Below W.heap.size W w' := by
 have HB := Aside0.mk (below_alloc (Below.refl W.heap.size W) (.cells #[.slice A l.length c] 22))
 have HC : Aside0 (Cap (W.alloc (.cells #[.slice A l.length c] 22)) W.heap.size A l.length c l) := ⟨⟨(blk_cell (blk_new _ _) 0).trans rfl, Kd.C_alloc hr _⟩⟩
 have hcell : (W.alloc (.cells #[.slice A l.length c] 22)).cell? ⟨W.heap.size, 0, none⟩ = some (.slice A l.length c) := HC.out.box
 have HS : Aside0 (W.heap.size < (W.alloc (.cells #[.slice A l.length c] 22)).heap.size) := ⟨blk_lt (blk_new _ _)⟩
 clear hr
 go_enter Tryz.func78, Tryz.ntmps78
 go_upto_region 1 with (fail)
 generalize W.alloc (.cells #[.slice A l.length c] 22) = W1 at HB HC hcell HS ⊢
 go_wp2_with (first | ((with_reducible refine gate_dst (N := 7) rfl ?_); refine Kd.R_make (Kd.int .i64) W1.heap.size 3 rfl (N := 7) rfl 23 _ _ rfl (l.length : Int) rfl rfl Tryz.underlying23 (.int .i64 0) 8 infoI rfl (by decide) (by omega) 0 (ok := fun _ => True) (okp := fun _ => True) rfl (fun _ hk => hk) trivial (by omega) (by omega) (Below.refl _ _) (Nat.le_refl _) ?_; intro v1 w1 ho hb hg hnew; clear hg; obtain ⟨G, cap, rfl, hR, _⟩ := make_form ho hnew; have HO := Aside0.mk hR; have HB1 := Aside0.mk hb; clear ho hb hnew hR))
 go_loopg [10] l.length (fun f v10 wr => ∃ i : Int, v10 = .int .i64 i ∧ 0 ≤ i ∧ i + f = l.length ∧ Aside0 ((Kd.int .i64).R 3 wr W1.heap.size (fun _ => True) (.slice (some ⟨G, 0, none⟩) l.length cap) (((List.range i.toNat).map fun j : Nat => (j : Int)) ++ List.replicate (l.length - i.toNat) 0)) ∧ Aside0 (RowKit.Below W1.heap.size W1 wr))
 case atStart => exact ⟨0, rfl, by omega, by omega, HO, HB1⟩
 case round =>
  clear HO HB1
  obtain ⟨i, rfl, hi0, hil, HO, HB1⟩ := hrel
  by_cases hlt : i < l.length
  ·obtain ⟨f, rfl⟩ : ∃ f, gk = f + 1 := ⟨gk - 1, by omega⟩
   obtain ⟨hx0, hf0⟩ := Kd.R_celln 0 HO.out i hi0 hlt
   have HP := Aside0.mk (Kd.R_putn HO.out i i)
   have HE := Aside0.mk (range_step l.length i.toNat (by omega))
   have HG := Aside0.mk (Kd.R_base HO.out G rfl)
   clear HO
   generalize rdOf (0 : Int) _ i = x at hx0
   go_wp2
   go_roundg f
   case measure => omega
   case rel => exact ⟨i + 1, by go_num, by omega, by omega, ⟨by have h := HP.out; have h2 := HE.out; rw [show ((i.toNat : Nat) : Int) = i by omega] at h2; rw [h2] at h; rw [show (i + 1).toNat = i.toNat + 1 by omega]; exact h⟩, ⟨low_set HB1.out HG.out _ _⟩⟩
  ·obtain rfl : i = l.length := by omega
   have hR : (Kd.int .i64).R 3 wr W1.heap.size (fun _ => True) (.slice (some ⟨G, 0, none⟩) l.length cap) (nI (List.range l.length)) := by
    have h := HO.out
    rw [Int.toNat_natCast, Nat.sub_self, List.replicate_zero, List.append_nil] at h
    exact h
   have CS : Aside0 (Calls Tryz.prog 44 #[.slice (some ⟨G, 0, none⟩) l.length cap, .func (.func 96) #[] #[.pointer (some ⟨W.heap.size, 0, none⟩)]] wr fun e w' => e = .returned (.tuple #[]) ∧ Aside0 ((Kd.int .i64).R 3 w' W.heap.size (fun _ => True) (.slice (some ⟨G, 0, none⟩) l.length cap) (nI (ordD l)) ∧ RowKit.Below W.heap.size W w')) :=
    ⟨(sort_own 96 (keyD l) #[.pointer (some ⟨W.heap.size, 0, none⟩)] (enters_of Tryz.func96 (by kernel_rfl) rfl) W1 wr l.length G l.length cap (fun _ => True) (List.range l.length) (fun w hb i j => dead_c w _ A l.length c l (HC.out.below hb HS.out) i.val j.val (by omega) (by omega) (by omega) (by omega)) hR HB1.out (fun i hi => List.mem_range.1 hi) List.pairwise_lt_range hn).mono fun e w' h => ⟨h.1, ⟨Kd.R_lower h.2.1 (below_size HB.out), below_step HB.out h.2.2.1⟩⟩⟩
   clear hR HO
   go_wp2_with (go_at_call 44; (with_reducible refine (CS.out).mono ?_); rintro e w' ⟨rfl, hQ⟩)
   go_ret
   exact ⟨_, rfl, hQ.out⟩

end Go.Proofs.YtobkfbkhcghaeaaGreatDoor.PRv
namespace Go.Proofs.YtobkfbkhcghaeaaGreatDoor.PRv
open Go.RowKit Go.Proofs.YtobkfbkhcghaeaaGreatDoor.PRv Go.Proofs.YtobkfbkhcghaeaaGreatDoorW.PrintWords Go.Proofs.YtobkfbkhcghaeaaGreatDoorW.PrintLast Go.Proofs.YtobkfbkhcghaeaaGreatDoorW.PrintMore 
set_option linter.unusedVariables false
set_option linter.unusedSimpArgs false

set_option maxHeartbeats 4000000
set_option maxRecDepth 100000
/-- What the closure of a tick sees: the jobs (L), the tick (T), what is left of each (F). -/
structure Tick (w : World) (L T F : Nat) (A : Option Addr) (n c : Nat) (l : List S45) (t : Int) (G cap : Nat) (left : List Int) : Prop where
 cap_ : Cap w L A n c l
 tick : w.cell? ⟨T, 0, none⟩ = some (.int .i64 t)
 fbox : w.cell? ⟨F, 0, none⟩ = some (.slice (some ⟨G, 0, none⟩) n cap)
 row : Kd.C (Kd.int .i64) w (some ⟨G, 0, none⟩) n left
theorem Tick.drewN {w : World} {L T F : Nat} {A : Option Addr} {n c : Nat} {l : List S45} {t : Int} {G cap : Nat} {left : List Int} (h : Tick w L T F A n c l t G cap left) (q : Nat) : Tick (w.drewN q) L T F A n c l t G cap left :=
 ⟨⟨h.cap_.box, Kd.C_drewN h.cap_.row q⟩, h.tick, h.fbox, Kd.C_drewN h.row q⟩
/-- May this one run at tick t? -/
def mayE (l : List S45) (t : Int) (left : List Int) (i : Int) : Bool := decide ((rd_T45 l i).f1 ≤ t) && decide (rd left i > 0)
theorem may_c {w : World} {L T F : Nat} {A : Option Addr} {n c : Nat} {l : List S45} {t : Int} {G cap : Nat} {left : List Int} (h : Tick w L T F A n c l t G cap left) (i : Int) (hi0 : 0 ≤ i) (hi : i < n) :
  Calls Tryz.prog 80 #[.int .i64 i, .pointer (some ⟨L, 0, none⟩), .pointer (some ⟨T, 0, none⟩), .pointer (some ⟨F, 0, none⟩)] w fun e w' => e = .returned (.bool (mayE l t left i)) ∧ ∃ q, w' = w.drewN q := by
 obtain ⟨⟨hb, hr⟩, ht, hf, hl⟩ := h
 obtain ⟨a, e, p0, p1, p2, p3, p4, p5, p6, p7⟩ := at_T45 hr i hi0 hi
 subst e
 obtain ⟨a', e, q1⟩ := Kd.at_int hl i hi0 hi
 injection e with e
 subst e
 simp only [add_plain] at q1
 unfold mayE
 clear hr hl p0 p2 p3 p4 p5 p6 p7
 generalize (rd_T45 l i).f1 = x at *
 generalize rd left i = y at *
 by_cases h1 : x ≤ t
 ·rw [decide_eq_true h1, Bool.true_and]
  have e1 : decide (x ≤ t) = true := decide_eq_true h1
  clear h1
  by_cases h2 : y > 0
  ·rw [decide_eq_true h2]
   have e2 : decide (0 < y) = true := decide_eq_true h2
   clear h2
   go_enter Tryz.func80, Tryz.ntmps80
   go_wp2
   go_quiet (fail)
   go_wp2
   go_ret
   exact ⟨rfl, _, rfl⟩
  ·rw [decide_eq_false h2]
   have e2 : decide (0 < y) = false := decide_eq_false h2
   clear h2
   go_enter Tryz.func80, Tryz.ntmps80
   go_wp2
   go_quiet (fail)
   go_wp2
   go_ret
   exact ⟨rfl, _, rfl⟩
 ·rw [decide_eq_false h1, Bool.false_and]
  have e1 : decide (x ≤ t) = false := decide_eq_false h1
  clear h1
  go_enter Tryz.func80, Tryz.ntmps80
  go_wp2
  go_quiet (fail)
  go_wp2
  go_ret
  exact ⟨rfl, _, rfl⟩
/-- The place in a row of the first that may; -1: there is none. -/
def firstE (p : Int → Bool) : List Int → Nat → Int
 | [], _ => -1
 | i :: o, k => if p i = true then (k : Int) else firstE p o (k + 1)
theorem idx_c {w : World} {L T F : Nat} {A : Option Addr} {n c : Nat} {l : List S45} {t : Int} {G cap : Nat} {left : List Int} (h : Tick w L T F A n c l t G cap left) (Ao : Option Addr) (co : Nat) (o : List Int)
  (ho : Kd.C (Kd.int .i64) w Ao o.length o) (hco : o.length ≤ co) (hin : ∀ i ∈ o, 0 ≤ i ∧ i < n) :
  Calls Tryz.prog 79 #[.slice Ao o.length co, .func (.func 80) #[] #[.pointer (some ⟨L, 0, none⟩), .pointer (some ⟨T, 0, none⟩), .pointer (some ⟨F, 0, none⟩)]] w fun e w' => e = .returned (.int .i64 (firstE (mayE l t left) o 0)) ∧ ∃ q, w' = w.drewN q := by
 have HT := Aside0.mk h
 have HO := Aside0.mk ho
 have HI := Aside0.mk hin
 have hm : o.length ≤ 9223372036854775807 := ho.2.1
 clear h ho hin
 go_enter Tryz.func79, Tryz.ntmps79
 go_wp2
 go_loopw [8] (fun i wr => ∃ k : Int, 0 ≤ k ∧ k ≤ o.length ∧ i = .int .i64 k ∧ Aside0 (firstE (mayE l t left) o 0 = firstE (mayE l t left) (o.drop k.toNat) k.toNat) ∧ Aside0 (∃ q, wr = w.drewN q)) (fun i _ => o.length - (intOf i).toNat)
 case atStart => exact ⟨0, by omega, by omega, rfl, ⟨rfl⟩, ⟨0, rfl⟩⟩
 case round =>
  obtain ⟨k, hk0, hk, rfl, HE, HQ⟩ := hrel
  obtain ⟨q, rfl⟩ := HQ.out
  clear HQ
  by_cases hlt : k < o.length
  ·obtain ⟨a, rfl, hx⟩ := Kd.at_int (Kd.C_drewN HO.out q) k (by omega) (by omega)
   have hdrop : o.drop k.toNat = rd o k :: o.drop (k.toNat + 1) := by
    rw [List.drop_eq_getElem_cons (by omega)]
    congr 1
    unfold rd
    rw [List.getD_eq_getElem?_getD, List.getElem?_eq_getElem (by omega)]; rfl
   have hmem : rd o k ∈ o := List.mem_of_mem_drop (i := k.toNat) (by rw [hdrop]; exact List.mem_cons_self ..)
   have hb := HI.out _ hmem
   have he := HE.out
   rw [hdrop] at he
   clear HE hdrop hmem
   generalize rd o k = i at *
   simp only [firstE] at he
   have CM := may_c (HT.out.drewN q) i hb.1 hb.2
   cases hg : mayE l t left i
   ·rw [hg] at he CM
    simp only [Bool.false_eq_true, if_false] at he
    have HE := Aside0.mk he
    have CM2 := Aside0.mk CM
    clear he hg CM hb
    go_wp2_with (go_at_call 80; (with_reducible refine CM2.out.mono ?_); rintro e w7 ⟨rfl, q2, rfl⟩)
    exact ⟨⟨k + 1, by omega, by omega, by go_num, ⟨by rw [HE.out, show (k + 1).toNat = k.toNat + 1 by omega]⟩, ⟨⟨q + q2, rfl⟩⟩⟩, by simp [intOf]; omega⟩
   ·rw [hg] at he CM
    simp only [if_true] at he
    have HE := Aside0.mk he
    have CM2 := Aside0.mk CM
    clear he hg CM hb
    go_wp2_with (go_at_call 80; (with_reducible refine CM2.out.mono ?_); rintro e w7 ⟨rfl, q2, rfl⟩)
    go_ret
    exact ⟨by rw [HE.out, Int.toNat_of_nonneg hk0]; rfl, q + q2, rfl⟩
  ·have he := HE.out
   rw [List.drop_of_length_le (by omega)] at he
   simp only [firstE] at he
   have HE := Aside0.mk he
   clear he
   go_wp2
   go_ret
   exact ⟨by rw [HE.out]; rfl, q, rfl⟩

end Go.Proofs.YtobkfbkhcghaeaaGreatDoor.PRv
namespace Go.Proofs.YtobkfbkhcghaeaaGreatDoor.PRv
open Go.RowKit Go.Proofs.YtobkfbkhcghaeaaGreatDoor.PRv Go.Proofs.YtobkfbkhcghaeaaGreatDoorW.PrintWords Go.Proofs.YtobkfbkhcghaeaaGreatDoorW.PrintLast Go.Proofs.YtobkfbkhcghaeaaGreatDoorW.PrintMore 
set_option linter.unusedVariables false
set_option linter.unusedSimpArgs false

set_option maxHeartbeats 16000000
set_option maxRecDepth 100000
section
variable {P : Program} {ops : Array Oper} {Q : Exit → Act → World → Prop}
/-- A call of a function that a temporary holds. -/
theorem goesV_ {oi : Oper} {N : Option Tmp} {a : Act} {w : World} {K : Act → World → Prop} {f : FuncId} {fn : Func} {xs : Array Operand} {ts : Array TypeId} (hf : P.funcs[f]? = some fn) (hname : (fn.name == "runtime.NumGoroutine") = false) (hb : fn.body.isSome = true) (x : Operand) (args : Array Value)
  (hw : Region.wanted oi (yielded ops a.tmps) = true) (hN : oi.dst = N) (hop : oi.op = .call { callee := .value x, args := xs, argTypes := ts }) (hx : a.eval x = .func (.func f) #[] #[]) (hargs : xs.map a.eval = args)
  (h : Calls P f args w fun e w' => ∃ v, e = .returned v ∧ K (a.put N v) w') : if Region.wanted oi (yielded ops a.tmps) = true then Oper.wp P oi a w K Q else K (a.put N undef) w := by
 refine call_ f args hw hN ?_ h
 have he := enters_ hf hname hb args w
 unfold execOp
 simp [hop, resolve, Deferred.ofValue, invoke, hx, hargs, he]
end
/-- What is left of each (block G) and the variable that holds it (F). -/
structure FS (W w : World) (F G n cap : Nat) (left : List Int) : Prop where
 bl : Below W.heap.size W w
 fb : w.heap[F]? = some (.cells #[.slice (some ⟨G, 0, none⟩) n cap] 23 (0, 0))
 ro : (Kd.int .i64).R 3 w W.heap.size (fun q => q = G) (.slice (some ⟨G, 0, none⟩) n cap) left
 gF : W.heap.size ≤ F
variable {W w w' : World} {F G n cap : Nat} {left : List Int}
theorem FS.step (h : FS W w F G n cap left) (hb : Below w.heap.size w w') : FS W w' F G n cap left :=
 ⟨below_step h.bl hb, (hb.block F (blk_lt h.fb)).trans h.fb, Kd.R_below h.ro hb, h.gF⟩
theorem FS.drew (h : FS W w F G n cap left) : FS W w.drew F G n cap left := h.step (below_drew (Below.refl _ _))
theorem FS.drewN (h : FS W w F G n cap left) (q : Nat) : FS W (w.drewN q) F G n cap left := h.step (pw_below_drewN (Below.refl _ _) q)
theorem FS.alloc (h : FS W w F G n cap left) (o : Obj) : FS W (w.alloc o) F G n cap left := h.step (below_alloc (Below.refl _ _) o)
theorem FS.ne (h : FS W w F G n cap left) : F ≠ G := fun e => Kd.R_ne h.ro h.fb (by decide) (by subst e; rfl)
theorem FS.put (h : FS W w F G n cap left) (i v : Int) : FS W (w.setCell ⟨G, i.toNat, none⟩ (.int .i64 v)) F G n cap (left.set i.toNat v) :=
 ⟨low_set h.bl (Kd.R_base h.ro G rfl) _ _, blk_far h.fb h.ne _, Kd.R_putn h.ro i v, h.gF⟩
theorem own_only {e base : Nat} {ok : Nat → Prop} (h : (Kd.int .i64).R e w base ok (.slice (some ⟨G, 0, none⟩) n cap) left) : (Kd.int .i64).R e w base (fun q => q = G) (.slice (some ⟨G, 0, none⟩) n cap) left := by
 have ho := Kd.own_of_R h
 exact Kd.R_of_own ho (fun k hk => by simpa [Value.ownBlock, eq_comm] using hk)
theorem FS.lt (h : FS W w F G n cap left) : G < w.heap.size := by
 obtain ⟨_, ⟨e, _⟩ | ⟨g, cap', cur, e, _, hc, _⟩⟩ := Kd.own_of_R h.ro
 ·cases e
 ·injection e with e
  injection e with e
  injection e with e
  subst e
  exact blk_lt hc
theorem FS.grown (h : FS W w F G n cap left) {row : Option Nat} (hg : w.grownBy w' row) (hb : Below W.heap.size W w') (hF : some F ≠ row) (hG : some G ≠ row) : FS W w' F G n cap left :=
 ⟨hb, blk_grown h.fb hg hF, Kd.R_grown h.ro hg (fun k hk => by subst hk; exact hG), h.gF⟩
theorem FS.len (h : FS W w F G n cap left) : left.length = n := (Kd.R_reads' h.ro).1.symm
/-- The ticks: who runs in each. -/
def goE (l : List S45) (o : List Int) : Nat → Int → List Int → List Int
 | 0, _, _ => []
 | f + 1, t, left => if firstE (mayE l t left) o 0 < 0 then -1 :: goE l o f (t + 1) left else
   rd o (firstE (mayE l t left) o 0) :: goE l o f (t + 1) (left.set (rd o (firstE (mayE l t left) o 0)).toNat (rd left (rd o (firstE (mayE l t left) o 0)) - 1))
def runE (l : List S45) (ticks : Int) (nd : S45 → Int) : List Int :=
 if l.all goodJ = true ∧ 0 ≤ ticks then goE l (nI (ordD l)) (min ticks 10000).toNat 0 (l.map nd) else []
theorem firstE_bd (p : Int → Bool) : ∀ (o : List Int) (k : Nat), -1 ≤ firstE p o k ∧ (0 ≤ firstE p o k → (k : Int) ≤ firstE p o k ∧ firstE p o k < k + o.length ∧ p (rd o (firstE p o k - k)) = true)
 | [], k => ⟨by simp [firstE], fun h => by simp [firstE] at h⟩
 | i :: o, k => by
  simp only [firstE]
  split
  ·rename_i h
   refine ⟨by omega, fun _ => ⟨by omega, by simp only [List.length_cons]; omega, ?_⟩⟩
   rw [Int.sub_self]
   exact h
  ·have ih := firstE_bd p o (k + 1)
   refine ⟨ih.1, fun h => ?_⟩
   obtain ⟨h1, h2, h3⟩ := ih.2 h
   refine ⟨by omega, by simp only [List.length_cons]; omega, ?_⟩
   generalize firstE p o (k + 1) = r at *
   have : rd (i :: o) (r - k) = rd o (r - ((k + 1 : Nat) : Int)) := by
    unfold rd
    rw [show (r - (k : Int)).toNat = (r - ((k + 1 : Nat) : Int)).toNat + 1 by omega]
    rfl
   rw [this]
   exact h3
theorem ordD_in (l : List S45) : ∀ i ∈ nI (ordD l), 0 ≤ i ∧ i < (l.length : Int) := by
 intro i hi
 obtain ⟨j, hj, rfl⟩ := List.mem_map.1 hi
 have := List.mem_range.1 ((srt_perm _ _).mem_iff.1 hj)
 omega
theorem fill_step (l : List S45) (nd : S45 → Int) (i : Nat) (hi : i < l.length) : ((l.take i).map nd ++ List.replicate (l.length - i) (0 : Int)).set i (nd (rd_T45 l (i : Int))) = (l.take (i + 1)).map nd ++ List.replicate (l.length - (i + 1)) 0 := by
 have e : (l.take i).length = i := by rw [List.length_take]; omega
 rw [List.set_append_right _ _ (by simp; omega), List.length_map, e, Nat.sub_self, show l.length - i = (l.length - (i + 1)) + 1 by omega, List.replicate_succ, List.set_cons_zero, List.take_succ_eq_append_getElem hi, List.map_append, List.append_assoc]
 congr 2
 unfold rd_T45
 rw [Int.toNat_natCast, List.getD_eq_getElem?_getD, List.getElem?_eq_getElem hi]
 rfl
theorem run_c (g : Nat) (fn : Func) (nd : S45 → Int) (hgf : Tryz.prog.funcs[g]? = some fn) (hgn : (fn.name == "runtime.NumGoroutine") = false) (hgb : fn.body.isSome = true)
  (hnd : ∀ (x : S45), x.f0.size ≤ lim → ∀ w, Tab w → Calls Tryz.prog g #[.agg #[.string x.f0, .int .i64 x.f1, .int .i64 x.f2, .int .i64 x.f3, .int .i64 x.f4, .int .i64 x.f5, .int .i64 x.f6, .bool x.f7]] w fun e w' => e = .returned (.int .i64 (nd x)) ∧ Below w.heap.size w w')
  (hb : ∀ x : S45, 0 ≤ nd x ∧ nd x ≤ 100000)
  (A : Option Addr) (c : Nat) (l : List S45) (ticks : Int) (W : World) (hT : Tab W) (hr : Kd.C k45 W A l.length l) (hc : l.length ≤ c) (hn : l.length < 20) (hz : ∀ x ∈ l, x.f0.size ≤ lim) (ht : -9223372036854775808 ≤ ticks ∧ ticks ≤ 9223372036854775807) :
  Calls Tryz.prog 50 #[.slice A l.length c, .int .i64 ticks, .func (.func g) #[] #[]] W fun e w' => ∃ v, e = .returned v ∧ (Kd.int .i64).R 3 w' W.heap.size (fun _ => True) v (runE l ticks nd) ∧ Below W.heap.size W w' := by
 have HGF := Aside0.mk hgf
 have HGB := Aside0.mk hgb
 have HGN := Aside0.mk hgn
 have HND := Aside0.mk hnd
 have HBD := Aside0.mk hb
 have HZs := Aside0.mk hz
 have HTb0 := Aside0.mk hT
 have HC0 := Aside0.mk hr
 have HB := Aside0.mk (Below.refl W.heap.size W)
 have CA := Aside0.mk (fun (w : World) (hb : Below W.heap.size W w) => job_All.calls A c l (l.all goodJ) w (tab_below hT hb) (Kd.C_below hr hb) hc (by
  unfold job_All.f cfJob.f
  rw [if_pos (by omega), if_pos (List.all_eq_true.2 fun x hx => decide_eq_true (hz x hx)), Option.bind_some]
  simp [List.all_eq_not_any_not]))
 have CB := Aside0.mk (fun (w : World) (hb : Below W.heap.size W w) => by_c A c l w (Kd.C_below hr hb) hc hn)
 clear hgf hgb hgn hnd hb hz hT hr
 unfold runE
 cases hg : l.all goodJ
 ·rw [hg] at CA
  rw [if_neg (fun h => by cases h.1)]
  clear hg
  go_enter Tryz.func50, Tryz.ntmps50
  go_wp2_with (first | (go_at_call 20; (with_reducible refine (CA.out _ (by repeat (first | (with_reducible first | exact HB.out | apply below_alloc | apply pw_below_drewN | apply below_drew1) | exact HB.out))).mono ?_); rintro e w7 ⟨rfl, hb⟩; have n0_ := Aside0.mk (below_step (by repeat (first | (with_reducible first | exact HB.out | apply below_alloc | apply pw_below_drewN | apply below_drew1) | exact HB.out)) hb); clear HB; have HB := n0_; clear n0_ hb))
  go_ret
  exact ⟨_, rfl, Kd.R_nil _ _ _ _ _, (by repeat (first | (with_reducible first | exact HB.out | apply below_alloc | apply pw_below_drewN | apply below_drew1) | exact HB.out))⟩
 rw [hg] at CA
 clear hg
 by_cases ht0 : ticks < 0
 ·rw [if_neg (fun h => absurd h.2 (by omega))]
  have e1 : decide (ticks < 0) = true := decide_eq_true ht0
  clear ht0
  go_enter Tryz.func50, Tryz.ntmps50
  go_wp2_with (first | (go_at_call 20; (with_reducible refine (CA.out _ (by repeat (first | (with_reducible first | exact HB.out | apply below_alloc | apply pw_below_drewN | apply below_drew1) | exact HB.out))).mono ?_); rintro e w7 ⟨rfl, hb⟩; have n0_ := Aside0.mk (below_step (by repeat (first | (with_reducible first | exact HB.out | apply below_alloc | apply pw_below_drewN | apply below_drew1) | exact HB.out)) hb); clear HB; have HB := n0_; clear n0_ hb))
  go_ret
  exact ⟨_, rfl, Kd.R_nil _ _ _ _ _, (by repeat (first | (with_reducible first | exact HB.out | apply below_alloc | apply pw_below_drewN | apply below_drew1) | exact HB.out))⟩
 rw [if_pos ⟨rfl, by omega⟩]
 have e1 : decide (ticks < 0) = false := decide_eq_false ht0
 have HTk := Aside0.mk (show 0 ≤ ticks by omega)
 clear ht0
 obtain ⟨N, hN⟩ : ∃ N : Nat, min ticks 10000 = (N : Int) := ⟨(min ticks 10000).toNat, by have := HTk.out; omega⟩
 have hN1 : N ≤ 10000 := by omega
 rw [hN, Int.toNat_natCast]
 have HOI := Aside0.mk (ordD_in l)
 generalize nI (ordD l) = o at CB HOI ⊢
 go_enter Tryz.func50, Tryz.ntmps50
 go_upto_region 1 with (fail)
 have HB1 := Aside0.mk (below_alloc (Below.refl W.heap.size W) (.cells #[.slice A l.length c] 22))
 have HC1 : Aside0 (Cap (W.alloc (.cells #[.slice A l.length c] 22)) W.heap.size A l.length c l) := ⟨⟨(blk_cell (blk_new _ _) 0).trans rfl, Kd.C_alloc HC0.out _⟩⟩
 have HL1 : Aside0 (W.heap.size < (W.alloc (.cells #[.slice A l.length c] 22)).heap.size) := ⟨blk_lt (blk_new _ _)⟩
 generalize W.alloc (.cells #[.slice A l.length c] 22) = W1 at HB1 HC1 HL1 ⊢
 have hcell : W1.cell? ⟨W.heap.size, 0, none⟩ = some (.slice A l.length c) := HC1.out.box
 clear HB
 have HB := HB1
 clear HB1
 go_upto_region 3 with (first | (go_at_call 20; (with_reducible refine (CA.out _ HB.out).mono ?_); rintro e w7 ⟨rfl, hb⟩; have n0_ := Aside0.mk (below_step HB.out hb); have n1_ := Aside0.mk (HC1.out.below hb HL1.out); have n2_ := Aside0.mk (Nat.lt_of_lt_of_le HL1.out hb.size); clear HB HC1 HL1 hcell; have HB := n0_; have HC1 := n1_; have HL1 := n2_; clear n0_ n1_ n2_ hb; have hcell : w7.cell? ⟨W.heap.size, 0, none⟩ = some (.slice A l.length c) := HC1.out.box))
 go_upto_region 4 with (first | (go_at_call 78; (with_reducible refine (CB.out _ HB.out).mono ?_); rintro e w8 ⟨v, rfl, ho, hb⟩; obtain ⟨Ao, co, rfl⟩ := Kd.R_slice ho; have HO := Aside0.mk ho; have n0_ := Aside0.mk (below_step HB.out hb); have n1_ := Aside0.mk (HC1.out.below hb HL1.out); have n2_ := Aside0.mk (Nat.lt_of_lt_of_le HL1.out hb.size); clear HB HC1 HL1 hcell; have HB := n0_; have HC1 := n1_; have HL1 := n2_; clear n0_ n1_ n2_ hb ho; have hcell : w8.cell? ⟨W.heap.size, 0, none⟩ = some (.slice A l.length c) := HC1.out.box))
 have HOc := Aside0.mk (Kd.R_reads' HO.out).2
 clear HO CA CB
 go_upto_region 5 with (first | ((with_reducible refine gate_dst (N := 25) rfl ?_); refine Kd.R_make (Kd.int .i64) w8.heap.size 3 rfl (N := 25) rfl 23 _ _ rfl (l.length : Int) rfl rfl Tryz.underlying23 (.int .i64 0) 8 infoI rfl (by decide) (by omega) 0 (ok := fun _ => True) (okp := fun _ => True) rfl (fun _ hk => hk) trivial (by omega) (by omega) (Below.refl _ _) (Nat.le_refl _) ?_; intro v1 w1 ho hb hg hnew; clear hg; obtain ⟨G, cap, rfl, hR, _⟩ := make_form ho hnew; have HR := Aside0.mk hR; have HB1 := Aside0.mk hb; clear ho hb hnew hR))
 have HF0 : Aside0 (FS w8 (w1.alloc (.cells #[.slice (some ⟨G, 0, none⟩) l.length cap] 23)) w1.heap.size G l.length cap ((l.take 0).map nd ++ List.replicate (l.length - 0) 0)) := ⟨⟨below_alloc HB1.out _, blk_new _ _, own_only (Kd.R_alloc HR.out _), below_size HB1.out⟩⟩
 have HTb := Aside0.mk (tab_below HTb0.out HB.out)
 clear HR HB1 hcell
 generalize w1.alloc (.cells #[.slice (some ⟨G, 0, none⟩) l.length cap] 23) = w2 at HF0 ⊢
 generalize w1.heap.size = F at HF0 ⊢
 have hcell2 : w2.cell? ⟨W.heap.size, 0, none⟩ = some (.slice A l.length c) := (HC1.out.below HF0.out.bl HL1.out).box
 go_wp2
 clear hcell2
 go_loopg [28] l.length (fun f v28 wr => ∃ i : Int, v28 = .int .i64 i ∧ 0 ≤ i ∧ i + f = l.length ∧ Aside0 (FS w8 wr F G l.length cap ((l.take i.toNat).map nd ++ List.replicate (l.length - i.toNat) 0)))
 case atStart => exact ⟨0, rfl, by omega, by omega, HF0⟩
 case round =>
  clear HF0
  obtain ⟨i, rfl, hi0, hil, HF⟩ := hrel
  by_cases hlt : i < l.length
  ·obtain ⟨f, rfl⟩ : ∃ f, gk = f + 1 := ⟨gk - 1, by omega⟩
   obtain ⟨a, rfl, q0, q1, q2, q3, q4, q5, q6, q7⟩ := at_T45 (Kd.C_below HC1.out.row HF.out.bl) i (by omega) (by omega)
   have hmem : rd_T45 l i ∈ l := by
    unfold rd_T45
    rw [List.getD_eq_getElem?_getD, List.getElem?_eq_getElem (by omega)]
    exact List.getElem_mem _
   have HZ := Aside0.mk (HZs.out _ hmem)
   have HE := Aside0.mk (fill_step l nd i.toNat (by omega))
   have HE2 : Aside0 (rd_T45 l ((i.toNat : Nat) : Int) = rd_T45 l i) := ⟨by rw [show ((i.toNat : Nat) : Int) = i by omega]⟩
   clear hmem
   generalize rd_T45 l i = x at *
   go_upto_region 8 with (fail)
   have HFw := Aside0.mk (HF.out.alloc (.cells #[.string x.f0, .int .i64 x.f1, .int .i64 x.f2, .int .i64 x.f3, .int .i64 x.f4, .int .i64 x.f5, .int .i64 x.f6, .bool x.f7] 45))
   have HJw := Aside0.mk (blk_new wr (.cells #[.string x.f0, .int .i64 x.f1, .int .i64 x.f2, .int .i64 x.f3, .int .i64 x.f4, .int .i64 x.f5, .int .i64 x.f6, .bool x.f7] 45))
   clear HF q0 q1 q2 q3 q4 q5 q6 q7
   generalize wr.alloc (.cells #[.string x.f0, .int .i64 x.f1, .int .i64 x.f2, .int .i64 x.f3, .int .i64 x.f4, .int .i64 x.f5, .int .i64 x.f6, .bool x.f7] 45) = Wd at HFw HJw ⊢
   generalize wr.heap.size = J at HFw HJw ⊢
   have cF : Wd.cell? ⟨F, 0, none⟩ = some (.slice (some ⟨G, 0, none⟩) l.length cap) := (blk_cell HFw.out.fb 0).trans rfl
   have c0 : Wd.cell? ⟨J, 0, none⟩ = some (.string x.f0) := (blk_cell HJw.out 0).trans rfl
   have c1 : Wd.cell? ⟨J, 1, none⟩ = some (.int .i64 x.f1) := (blk_cell HJw.out 1).trans rfl
   have c2 : Wd.cell? ⟨J, 2, none⟩ = some (.int .i64 x.f2) := (blk_cell HJw.out 2).trans rfl
   have c3 : Wd.cell? ⟨J, 3, none⟩ = some (.int .i64 x.f3) := (blk_cell HJw.out 3).trans rfl
   have c4 : Wd.cell? ⟨J, 4, none⟩ = some (.int .i64 x.f4) := (blk_cell HJw.out 4).trans rfl
   have c5 : Wd.cell? ⟨J, 5, none⟩ = some (.int .i64 x.f5) := (blk_cell HJw.out 5).trans rfl
   have c6 : Wd.cell? ⟨J, 6, none⟩ = some (.int .i64 x.f6) := (blk_cell HJw.out 6).trans rfl
   have c7 : Wd.cell? ⟨J, 7, none⟩ = some (.bool x.f7) := (blk_cell HJw.out 7).trans rfl
   refine start_ (n := 7) (S := fun w' => w'.cell? ⟨F, 0, none⟩ = some (.slice (some ⟨G, 0, none⟩) l.length cap) ∧ w'.cell? ⟨J, 0, none⟩ = some (.string x.f0) ∧ w'.cell? ⟨J, 1, none⟩ = some (.int .i64 x.f1) ∧ w'.cell? ⟨J, 2, none⟩ = some (.int .i64 x.f2) ∧ w'.cell? ⟨J, 3, none⟩ = some (.int .i64 x.f3) ∧ w'.cell? ⟨J, 4, none⟩ = some (.int .i64 x.f4) ∧ w'.cell? ⟨J, 5, none⟩ = some (.int .i64 x.f5) ∧ w'.cell? ⟨J, 6, none⟩ = some (.int .i64 x.f6) ∧ w'.cell? ⟨J, 7, none⟩ = some (.bool x.f7)) (ds := [6]) #[false, false, false, false, false, false, false] (by kernel_rfl) rfl rfl ⟨cF, c0, c1, c2, c3, c4, c5, c6, c7⟩ (fun hHeld => ?_)
   have HFd := Aside0.mk HFw.out.drew
   have HJd := Aside0.mk (blk_drew HJw.out)
   clear HFw HJw cF c0 c1 c2 c3 c4 c5 c6 c7
   generalize Wd.drew = We at HFd HJd hHeld ⊢
   refine pure_ (i := 1) (N := some 34) (v := ?_) (a' := ?_) #[false, true, false, false, false, false, false] rfl rfl (by kernel_rfl) (fun _ _ _ h => h) (Or.inl ⟨by rfl, ?_⟩) ?_ ?_
   rotate_left
   ·intro w'
    go_simp
    with_reducible rfl
   rotate_left
   ·simp only [Act.put, List.setIfInBounds_toArray, List.set_cons_zero, List.set_cons_succ, i64_w, i32_w]
    rfl
   refine pure_ (i := 2) (N := some 35) (v := ?_) (a' := ?_) #[false, true, true, false, false, false, false] rfl rfl (by kernel_rfl) (fun _ _ _ h => h) (Or.inl ⟨by rfl, ?_⟩) ?_ ?_
   rotate_left
   ·intro w'
    go_simp
    with_reducible rfl
   rotate_left
   ·simp only [Act.put, List.setIfInBounds_toArray, List.set_cons_zero, List.set_cons_succ, i64_w, i32_w]
    rfl
   refine take_ (i := 0) (N := some 33) (v := ?_) (a' := ?_) #[true, true, true, false, false, false, false] rfl rfl (by kernel_rfl) (fun _ _ _ h => h) (Or.inl ⟨by rfl, ?_⟩) hHeld ?_ ?_
   rotate_left
   ·rintro w' ⟨s0, s1, s2, s3, s4, s5, s6, s7, s8⟩
    go_simp
    with_reducible rfl
   rotate_left
   ·simp only [Act.put, List.setIfInBounds_toArray, List.set_cons_zero, List.set_cons_succ, i64_w, i32_w]
    rfl
   refine take_ (i := 3) (N := some 36) (v := ?_) (a' := ?_) #[true, true, true, true, false, false, false] rfl rfl (by kernel_rfl) (fun _ _ _ h => h) (Or.inl ⟨by rfl, ?_⟩) hHeld ?_ ?_
   rotate_left
   ·rintro w' ⟨s0, s1, s2, s3, s4, s5, s6, s7, s8⟩
    go_simp
    with_reducible rfl
   rotate_left
   ·simp only [Act.put, List.setIfInBounds_toArray, List.set_cons_zero, List.set_cons_succ, i64_w, i32_w]
    rfl
   refine one_ (i := 4) (N := some 37) #[true, true, true, true, true, false, false] rfl rfl (by kernel_rfl) (by decide) (fun K hK => ?_)
   refine goesV_ HGF.out HGN.out HGB.out (.tmp 35) #[.agg #[.string x.f0, .int .i64 x.f1, .int .i64 x.f2, .int .i64 x.f3, .int .i64 x.f4, .int .i64 x.f5, .int .i64 x.f6, .bool x.f7]] (by rfl) rfl rfl (by rfl) (by simp only [List.map_toArray, List.map_cons, List.map_nil]; rfl) ?_
   with_reducible refine (HND.out x HZ.out _ (tab_below HTb.out HFd.out.bl)).mono ?_
   rintro e w3 ⟨rfl, hb⟩
   refine ⟨_, rfl, ?_⟩
   have HF3 := Aside0.mk (HFd.out.step hb)
   have HJ3 := Aside0.mk ((hb.block J (blk_lt HJd.out)).trans HJd.out)
   clear hb
   obtain ⟨hx0, hf0⟩ := Kd.R_celln 0 HF3.out.ro i (by omega) (by omega)
   refine hK.out _ _ ⟨(blk_cell HF3.out.fb 0).trans rfl, (blk_cell HJ3.out 0).trans rfl, (blk_cell HJ3.out 1).trans rfl, (blk_cell HJ3.out 2).trans rfl, (blk_cell HJ3.out 3).trans rfl, (blk_cell HJ3.out 4).trans rfl, (blk_cell HJ3.out 5).trans rfl, (blk_cell HJ3.out 6).trans rfl, (blk_cell HJ3.out 7).trans rfl⟩ (fun hHeld => ?_)
   clear hK K
   refine norm_ (a' := ?_) ?_ ?_
   rotate_left
   ·show Act.put _ (some 37) _ = _
    simp only [Act.put, List.setIfInBounds_toArray, List.set_cons_zero, List.set_cons_succ, i64_w, i32_w]
    rfl
   refine pure_ (i := 5) (N := some 38) (v := ?_) (a' := ?_) #[true, true, true, true, true, true, false] rfl rfl (by kernel_rfl) (fun _ _ _ h => h) (Or.inl ⟨by rfl, ?_⟩) ?_ ?_
   rotate_left
   ·intro w'
    go_simp
    with_reducible rfl
   rotate_left
   ·simp only [Act.put, List.setIfInBounds_toArray, List.set_cons_zero, List.set_cons_succ, i64_w, i32_w]
    rfl
   refine last_ (i := 6) (N := none) #[true, true, true, true, true, true, true] rfl rfl (by kernel_rfl) (by decide) (fun K hK => ?_)
   refine skip_ (w1 := ?_) (by rfl) rfl ?_ ?_
   rotate_left
   ·go_simp
    rfl
   refine hK.out _ _ ?_
   clear hK K
   refine done_ (by kernel_rfl) ?_
   have HF4 := Aside0.mk (HF3.out.put i (nd x))
   clear hHeld HF3 HJ3 hx0 hf0 HFd HJd
   go_wp2
   go_roundg f
   case measure => omega
   case rel => exact ⟨i + 1, by go_num, by omega, by omega, ⟨by have h := HF4.out; have h2 := HE.out; rw [HE2.out] at h2; rw [h2] at h; rw [show (i + 1).toNat = i.toNat + 1 by omega]; exact h⟩⟩
  ·obtain rfl : i = l.length := by omega
   have HF1 : Aside0 (FS w8 wr F G l.length cap (l.map nd)) := ⟨by
    have h := HF.out
    rw [Int.toNat_natCast, Nat.sub_self, List.replicate_zero, List.append_nil, List.take_length] at h
    exact h⟩
   have HV : Aside0 (∀ y ∈ l.map nd, 0 ≤ y ∧ y ≤ 100000) := ⟨fun y hy => by obtain ⟨x, _, rfl⟩ := List.mem_map.1 hy; exact HBD.out x⟩
   clear HF
   obtain ⟨wo, hwo⟩ : ∃ wo : World, wo = wr := ⟨_, rfl⟩
   subst hwo
   go_wp2
   go_loopg [11, 42] N (fun f v11 v42 wr => ∃ (k : Int) (tl left : List Int), v42 = .int .i64 k ∧ 0 ≤ k ∧ k + f = N ∧ Aside0 (FS w8 wr F G l.length cap left) ∧ Aside0 ((Kd.int .i64).R 3 wr w8.heap.size (fun q => q ≠ G) v11 tl) ∧ Aside0 (goE l o N 0 (l.map nd) = tl ++ goE l o f k left) ∧ Aside0 (∀ y ∈ left, 0 ≤ y ∧ y ≤ 100000) ∧ Aside0 ((tl.length : Int) = k))
   case atStart => exact ⟨0, [], l.map nd, rfl, by omega, by omega, HF1, ⟨Kd.R_nil _ _ _ _ _⟩, ⟨rfl⟩, HV, ⟨rfl⟩⟩
   case round =>
    clear HF1 HV
    obtain ⟨k, tl, left, rfl, hk0, hkN, HF, HTl, HE, HV, HK⟩ := hrel
    obtain ⟨Av, cv, rfl⟩ := Kd.R_slice HTl.out
    by_cases hlt : k < N
    ·obtain ⟨f, rfl⟩ : ∃ f, gk = f + 1 := ⟨gk - 1, by omega⟩
     go_upto_region 14 with (fail)
     have HFa := Aside0.mk (HF.out.alloc (.cells #[.int .i64 k] 3))
     have HTa := Aside0.mk (Kd.R_alloc HTl.out (.cells #[.int .i64 k] 3))
     have HXa := Aside0.mk (blk_new wr (.cells #[.int .i64 k] 3))
     clear HF HTl
     generalize wr.alloc (.cells #[.int .i64 k] 3) = wT at HFa HTa HXa ⊢
     generalize wr.heap.size = T at HXa ⊢
     have HTick : Tick wT W.heap.size T F A l.length c l k G cap left := ⟨HC1.out.below HFa.out.bl HL1.out, (blk_cell HXa.out 0).trans rfl, (blk_cell HFa.out.fb 0).trans rfl, by have h := (Kd.R_reads' HFa.out.ro).2.2; rwa [HFa.out.len] at h⟩
     have CI := Aside0.mk (idx_c HTick Ao co o (Kd.C_below HOc.out.2 HFa.out.bl) HOc.out.1 HOI.out)
     have hbd := firstE_bd (mayE l k left) o 0
     have HSt : Aside0 (goE l o (f + 1) k left = if firstE (mayE l k left) o 0 < 0 then -1 :: goE l o f (k + 1) left else rd o (firstE (mayE l k left) o 0) :: goE l o f (k + 1) (left.set (rd o (firstE (mayE l k left) o 0)).toNat (rd left (rd o (firstE (mayE l k left) o 0)) - 1))) := ⟨rfl⟩
     clear HTick
     generalize firstE (mayE l k left) o 0 = at_ at CI hbd HSt
     by_cases hneg : at_ < 0
     ·have d1 : decide (at_ < 0) = true := decide_eq_true hneg
      have HSt2 : Aside0 (goE l o N 0 (l.map nd) = (tl ++ [-1]) ++ goE l o f (k + 1) left) := ⟨by rw [HE.out, HSt.out, if_pos hneg, List.append_assoc]; rfl⟩
      clear hneg hbd HSt HE
      go_upto_region 16 with (first | (go_at_call 79; (with_reducible refine CI.out.mono ?_); rintro e w7 ⟨rfl, q, rfl⟩))
      have HFn := Aside0.mk (HFa.out.drewN q)
      have HTn := Aside0.mk (Kd.R_drewN HTa.out q)
      clear HFa HTa HXa CI
      generalize wT.drewN q = wn at HFn HTn ⊢
      have HGl := Aside0.mk HFn.out.lt
      have HNF := Aside0.mk (Kd.R_ne HTn.out HFn.out.fb (by decide))
      have HNG : Aside0 (some G ≠ (Value.slice Av tl.length cv).ownBlock) := ⟨fun e => HTn.out.1 G e.symm rfl⟩
      go_wp2_with (first | ((with_reducible refine gate_builtin (b := .append) (xs := #[.tmp 50, .tmp 51]) rfl ?_); at_builtin; refine Kd.R_append (Kd.int .i64) (w0 := w8) w8.heap.size rfl (.tmp 50) (.tmp 51) 23 3 (.int .i64 0) 8 rfl Tryz.underlying23 infoI rfl (by decide) (by omega) (.slice Av tl.length cv) tl (-1) [.int .i64 (-1)] (fun q => q ≠ G) (fun _ => False) rfl rfl rfl (fun _ hk => hk.elim) (fun k hk => by have := HGl.out; omega) HTn.out HFn.out.bl (below_size HFn.out.bl) (by have := HK.out; omega) ?_; intro v1 w1 ho hb hg hat; have HT2 := Aside0.mk ho; have HF2 := Aside0.mk (HFn.out.grown hg hb HNF.out HNG.out); clear ho hb hg hat))
      go_roundg f
      case measure => omega
      case rel => exact ⟨k + 1, tl ++ [-1], left, by go_num, by omega, by omega, HF2, HT2, HSt2, HV, ⟨by have := HK.out; rw [List.length_append]; simp only [List.length_cons, List.length_nil]; omega⟩⟩
     ·obtain ⟨_, hbd⟩ := hbd
      obtain ⟨_, ha1, ha2⟩ := hbd (by omega)
      have d1 : decide (at_ < 0) = false := decide_eq_false hneg
      rw [show at_ - ((0 : Nat) : Int) = at_ by omega] at ha2
      obtain ⟨ao, rfl, hco⟩ := Kd.at_int (Kd.C_below HOc.out.2 HFa.out.bl) at_ (by omega) (by omega)
      have hjm : rd o at_ ∈ o := by
       unfold rd
       rw [List.getD_eq_getElem?_getD, List.getElem?_eq_getElem (by omega)]
       exact List.getElem_mem _
      have hjb := HOI.out _ hjm
      have hyp : rd left (rd o at_) > 0 := by
       unfold mayE at ha2
       rw [Bool.and_eq_true] at ha2
       exact of_decide_eq_true ha2.2
      obtain ⟨ag, eg, hcg⟩ := Kd.at_int (Kd.R_reads' HFa.out.ro).2.2 (rd o at_) (by omega) (by have := HFa.out.len; omega)
      injection eg with eg
      subst eg
      simp only [add_plain] at hcg
      have hym : rd left (rd o at_) ∈ left := by
       have := HFa.out.len
       unfold rd
       rw [List.getD_eq_getElem?_getD, List.getElem?_eq_getElem (by unfold rd at hjb; omega)]
       exact List.getElem_mem _
      have hyb := HV.out _ hym
      have HSt2 : Aside0 (goE l o N 0 (l.map nd) = (tl ++ [rd o at_]) ++ goE l o f (k + 1) (left.set (rd o at_).toNat (rd left (rd o at_) - 1))) := ⟨by rw [HE.out, HSt.out, if_neg hneg, List.append_assoc]; rfl⟩
      have hat0 : 0 ≤ at_ := by omega
      have hat1 : at_ < o.length := by omega
      have HRO : Aside0 (rd o at_ = rd o at_) := ⟨rfl⟩
      clear hjm hym ha2 HSt HE hneg hbd ha1
      generalize rd left (rd o at_) = y at hyp hyb hcg HSt2
      generalize hj : rd o at_ = j at hjb hco hcg HSt2
      have HJ := Aside0.mk hj
      clear hj HRO
      go_upto_region 17 with (first | (go_at_call 79; (with_reducible refine CI.out.mono ?_); rintro e w7 ⟨rfl, q, rfl⟩))
      have HFw := Aside0.mk (HFa.out.drewN q)
      have HTw := Aside0.mk (Kd.R_drewN HTa.out q)
      have cF : (wT.drewN q).cell? ⟨F, 0, none⟩ = some (.slice (some ⟨G, 0, none⟩) l.length cap) := (blk_cell HFw.out.fb 0).trans rfl
      have cO : (wT.drewN q).cell? (ao.add at_.toNat) = some (.int .i64 j) := hco
      have cG : (wT.drewN q).cell? ⟨G, j.toNat, none⟩ = some (.int .i64 y) := hcg
      clear HFa HTa HXa CI hco hcg
      generalize wT.drewN q = Wd at HFw HTw cF cO cG ⊢
      refine start_ (n := 10) (S := fun w' => w'.cell? ⟨F, 0, none⟩ = some (.slice (some ⟨G, 0, none⟩) l.length cap) ∧ w'.cell? (ao.add at_.toNat) = some (.int .i64 j) ∧ w'.cell? ⟨G, j.toNat, none⟩ = some (.int .i64 y)) (ds := [9]) #[false, false, false, false, false, false, false, false, false, false] (by kernel_rfl) rfl rfl ⟨cF, cO, cG⟩ (fun hHeld => ?_)
      have HFd := Aside0.mk HFw.out.drew
      have HTd := Aside0.mk (Kd.R_drew HTw.out)
      clear HFw HTw cF cO cG
      generalize Wd.drew = We at HFd HTd hHeld ⊢
      have gG := hHeld.2.2
      have fG := (Kd.R_celln 0 HFd.out.ro j (by omega) (by omega)).2
      refine pure_ (i := 1) (N := some 54) (v := ?_) (a' := ?_) #[false, true, false, false, false, false, false, false, false, false] rfl rfl (by kernel_rfl) (fun _ _ _ h => h) (Or.inl ⟨by rfl, ?_⟩) ?_ ?_
      rotate_left
      ·intro w'
       go_simp
       with_reducible rfl
      rotate_left
      ·simp only [Act.put, List.setIfInBounds_toArray, List.set_cons_zero, List.set_cons_succ, i64_w, i32_w]
       rfl
      refine pure_ (i := 2) (N := some 55) (v := ?_) (a' := ?_) #[false, true, true, false, false, false, false, false, false, false] rfl rfl (by kernel_rfl) (fun _ _ _ h => h) (Or.inl ⟨by rfl, ?_⟩) ?_ ?_
      rotate_left
      ·intro w'
       go_simp
       with_reducible rfl
      rotate_left
      ·simp only [Act.put, List.setIfInBounds_toArray, List.set_cons_zero, List.set_cons_succ, i64_w, i32_w]
       rfl
      refine pure_ (i := 3) (N := some 56) (v := ?_) (a' := ?_) #[false, true, true, true, false, false, false, false, false, false] rfl rfl (by kernel_rfl) (fun _ _ _ h => h) (Or.inl ⟨by rfl, ?_⟩) ?_ ?_
      rotate_left
      ·intro w'
       go_simp
       with_reducible rfl
      rotate_left
      ·simp only [Act.put, List.setIfInBounds_toArray, List.set_cons_zero, List.set_cons_succ, i64_w, i32_w]
       rfl
      refine take_ (i := 0) (N := some 53) (v := ?_) (a' := ?_) #[true, true, true, true, false, false, false, false, false, false] rfl rfl (by kernel_rfl) (fun _ _ _ h => h) (Or.inl ⟨by rfl, ?_⟩) hHeld ?_ ?_
      rotate_left
      ·rintro w' ⟨s0, s1, s2⟩
       go_simp
       with_reducible rfl
      rotate_left
      ·simp only [Act.put, List.setIfInBounds_toArray, List.set_cons_zero, List.set_cons_succ, i64_w, i32_w]
       rfl
      refine take_ (i := 4) (N := some 57) (v := ?_) (a' := ?_) #[true, true, true, true, true, false, false, false, false, false] rfl rfl (by kernel_rfl) (fun _ _ _ h => h) (Or.inl ⟨by rfl, ?_⟩) hHeld ?_ ?_
      rotate_left
      ·rintro w' ⟨s0, s1, s2⟩
       go_simp
       with_reducible rfl
      rotate_left
      ·simp only [Act.put, List.setIfInBounds_toArray, List.set_cons_zero, List.set_cons_succ, i64_w, i32_w]
       rfl
      refine pure_ (i := 5) (N := some 58) (v := ?_) (a' := ?_) #[true, true, true, true, true, true, false, false, false, false] rfl rfl (by kernel_rfl) (fun _ _ _ h => h) (Or.inl ⟨by rfl, ?_⟩) ?_ ?_
      rotate_left
      ·intro w'
       go_simp
       with_reducible rfl
      rotate_left
      ·simp only [Act.put, List.setIfInBounds_toArray, List.set_cons_zero, List.set_cons_succ, i64_w, i32_w]
       rfl
      refine take_ (i := 6) (N := some 59) (v := ?_) (a' := ?_) #[true, true, true, true, true, true, true, false, false, false] rfl rfl (by kernel_rfl) (fun _ _ _ h => h) (Or.inl ⟨by rfl, ?_⟩) hHeld ?_ ?_
      rotate_left
      ·rintro w' ⟨s0, s1, s2⟩
       go_simp
       with_reducible rfl
      rotate_left
      ·simp only [Act.put, List.setIfInBounds_toArray, List.set_cons_zero, List.set_cons_succ, i64_w, i32_w]
       rfl
      refine pure_ (i := 7) (N := some 60) (v := ?_) (a' := ?_) #[true, true, true, true, true, true, true, true, false, false] rfl rfl (by kernel_rfl) (fun _ _ _ h => h) (Or.inl ⟨by rfl, ?_⟩) ?_ ?_
      rotate_left
      ·intro w'
       go_simp
       with_reducible rfl
      rotate_left
      ·simp only [Act.put, List.setIfInBounds_toArray, List.set_cons_zero, List.set_cons_succ, i64_w, i32_w]
       rfl
      refine pure_ (i := 8) (N := some 61) (v := ?_) (a' := ?_) #[true, true, true, true, true, true, true, true, true, false] rfl rfl (by kernel_rfl) (fun _ _ _ h => h) (Or.inl ⟨by rfl, ?_⟩) ?_ ?_
      rotate_left
      ·intro w'
       go_simp
       with_reducible rfl
      rotate_left
      ·simp only [Act.put, List.setIfInBounds_toArray, List.set_cons_zero, List.set_cons_succ, i64_w, i32_w]
       rfl
      refine last_ (i := 9) (N := none) #[true, true, true, true, true, true, true, true, true, true] rfl rfl (by kernel_rfl) (by decide) (fun K hK => ?_)
      refine skip_ (w1 := ?_) (by rfl) rfl ?_ ?_
      rotate_left
      ·go_simp
       rfl
      refine hK.out _ _ ?_
      clear hK K
      refine done_ (by kernel_rfl) ?_
      have HFn := Aside0.mk (HFd.out.put j (wrap64 (y - 1)))
      have HTn : Aside0 ((Kd.int .i64).R 3 (We.setCell ⟨G, j.toNat, none⟩ (.int .i64 (wrap64 (y - 1)))) w8.heap.size (fun q => q ≠ G) (.slice Av tl.length cv) tl) := ⟨Kd.R_grown HTd.out (Kd.R_putg HFd.out.ro j (wrap64 (y - 1))).2 (fun k hk e => hk (by injection e))⟩
      clear hHeld gG fG HFd HTd
      generalize We.setCell ⟨G, j.toNat, none⟩ (.int .i64 (wrap64 (y - 1))) = wn at HFn HTn ⊢
      rw [show wrap64 (y - 1) = y - 1 by unfold wrap64; omega] at HFn
      have HGl := Aside0.mk HFn.out.lt
      have HNF := Aside0.mk (Kd.R_ne HTn.out HFn.out.fb (by decide))
      have HNG : Aside0 (some G ≠ (Value.slice Av tl.length cv).ownBlock) := ⟨fun e => HTn.out.1 G e.symm rfl⟩
      obtain ⟨ao2, eo, hco⟩ := Kd.at_int (Kd.C_below HOc.out.2 HFn.out.bl) at_ (by omega) (by omega)
      injection eo with eo
      subst eo
      rw [HJ.out] at hco
      have HV2 : Aside0 (∀ z ∈ left.set j.toNat (y - 1), 0 ≤ z ∧ z ≤ 100000) := ⟨fun z hz => by
       rcases List.mem_or_eq_of_mem_set hz with h | h
       ·exact HV.out z h
       ·subst h; omega⟩
      go_wp2_with (first | ((with_reducible refine gate_builtin (b := .append) (xs := #[.tmp 62, .tmp 67]) rfl ?_); at_builtin; refine Kd.R_append (Kd.int .i64) (w0 := w8) w8.heap.size rfl (.tmp 62) (.tmp 67) 23 3 (.int .i64 0) 8 rfl Tryz.underlying23 infoI rfl (by decide) (by omega) (.slice Av tl.length cv) tl j [.int .i64 j] (fun q => q ≠ G) (fun _ => False) rfl rfl rfl (fun _ hk => hk.elim) (fun k hk => by have := HGl.out; omega) HTn.out HFn.out.bl (below_size HFn.out.bl) (by have := HK.out; omega) ?_; intro v1 w1 ho hb hg hat; have HT2 := Aside0.mk ho; have HF2 := Aside0.mk (HFn.out.grown hg hb HNF.out HNG.out); clear ho hb hg hat))
      go_roundg f
      case measure => omega
      case rel => exact ⟨k + 1, tl ++ [j], left.set j.toNat (y - 1), by go_num, by omega, by omega, HF2, HT2, HSt2, HV2, ⟨by have := HK.out; rw [List.length_append]; simp only [List.length_cons, List.length_nil]; omega⟩⟩
    ·obtain rfl : gk = 0 := by omega
     have HE2 : Aside0 (goE l o N 0 (l.map nd) = tl) := ⟨by rw [HE.out]; exact List.append_nil _⟩
     clear HE
     go_wp2
     go_ret
     refine ⟨_, rfl, ?_, below_step HB.out HF.out.bl⟩
     rw [HE2.out]
     exact Kd.R_mono (Kd.R_lower HTl.out (below_size HB.out)) (fun _ _ => trivial)

end Go.Proofs.YtobkfbkhcghaeaaGreatDoor.PRv
