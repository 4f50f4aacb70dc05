/- Demand in a frame more is that of the frame more; what can be held can be, if a task is left out, or needs less: for every list of tasks (of more than six, of frames above 2000, nothing is asked) and every length. -/
import Derived.Test.YticnfjoodcacmaaPDemBx
import Derived.Test.YticnfjoodcacmaaDemKit
import Derived.Deep.Strs
import Derived.Deep.Slices
import Derived.Deep.Fields
import Derived.ChangeArms
import Derived.DataReads
import Derived.Test.YticnfjoodcacmaaRows
import Derived.WalkKit
import Derived.ProofKit
import Derived.OpenShut
import Derived.ShutString
import Derived.ChangeOld
import Derived.Below
import Derived.SizedLaws
import Derived.Carry
import Derived.Lib.SmallJoins
import Derived.Test.YticnfjoodcacmaaWSized
namespace Go.Proofs.Yticnfjoodcacmaa.Pure
open Go.RowKit Go.Proofs.Yticnfjoodcacmaa.PDemB Go.Proofs.YticnfjoodcacmaaW.PrintWords Go.Proofs.YticnfjoodcacmaaW.PrintLast Go.Proofs.YticnfjoodcacmaaW.PrintMore 
set_option linter.unusedVariables false
set_option linter.unusedSimpArgs false

/-! A slice of structs of three whole numbers that came in: the list that it reads as. -/
section
open Go.Deep Go.ChangeShapes Go.WideShapes
variable {H : Type} {enc : TypeId × Value → H} {w : World} {base : Nat} {spare : Nat → Bool} {held : Bool}
theorem st3_cells {P : Program} {k : IntKind} {e ti : TypeId} {f0 f1 f2 : Field} (he : P.underlying e = some (.struct #[f0, f1, f2])) (hone : oneCellFields P #[f0, f1, f2] = true) (hC : P.cellsOf e = 3) (hi : P.underlying ti = some (.int k))
    (t0 : f0.type = ti) (t1 : f1.type = ti) (t2 : f2.type = ti) {fuel : Nat} {cs : List Value} {x : DataW H × List MemPlace} (h : DataW.trod enc P w base spare held fuel e cs = some x) :
    ∃ a b c : Int, cs = [.int k a, .int k b, .int k c] ∧ (Lit.int k a).wf = true ∧ (Lit.int k b).wf = true ∧ (Lit.int k c).wf = true := by
  obtain ⟨y0, y1, y2, n, _, hl, h0, h1, h2⟩ := trod_struct3 he h
  rw [hC] at hl
  match cs, hl with
  | [u, v, z], _ =>
    obtain ⟨o0, k0⟩ := hone_of hone 0 f0 rfl
    obtain ⟨o1, k1⟩ := hone_of hone 1 f1 rfl
    obtain ⟨o2, k2⟩ := hone_of hone 2 f2 rfl
    rw [o0, k0, t0] at h0; rw [o1, k1, t1] at h1; rw [o2, k2, t2] at h2
    obtain ⟨a, ea, _, wa⟩ := DataW.trod_int hi h0
    obtain ⟨b, eb, _, wb⟩ := DataW.trod_int hi h1
    obtain ⟨c, ec, _, wc⟩ := DataW.trod_int hi h2
    simp at ea eb ec
    subst ea eb ec
    exact ⟨a, b, c, rfl, wa, wb, wc⟩
theorem st3_row {P : Program} {k : IntKind} {t e ti : TypeId} {f0 f1 f2 : Field} (ht : P.underlying t = some (.slice e)) (he : P.underlying e = some (.struct #[f0, f1, f2])) (hone : oneCellFields P #[f0, f1, f2] = true) (hC : P.cellsOf e = 3) (hi : P.underlying ti = some (.int k))
    (t0 : f0.type = ti) (t1 : f1.type = ti) (t2 : f2.type = ti) {α : Type} (d : Kd α) (hd : d.sz = 3) (mk : Int → Int → Int → α) (hk : ∀ w a b c, d.K w (mk a b c) [.int k a, .int k b, .int k c])
    {fuel : Nat} {A : Option Addr} {len cap : Nat} {x : DataW H × List MemPlace} (h : DataW.trod enc P w base spare held fuel t [.slice A len cap] = some x) :
    ∃ l : List α, len = l.length ∧ Kd.C d w A l.length l ∧ l.length ≤ cap ∧ l.length ≤ maxLen ∧ ∀ y ∈ l, ∃ a b c, y = mk a b c ∧ (Lit.int k a).wf = true ∧ (Lit.int k b).wf = true ∧ (Lit.int k c).wf = true := by
  rcases open_slice ht h with ⟨h0, _⟩ | ⟨a, len', cap', m, n, D, Pl, hcs, hb, hl, hm, hmm, hx, hi'⟩
  · simp at h0
    obtain ⟨rfl, rfl, rfl⟩ := h0
    exact ⟨[], rfl, ⟨rfl, by simp, fun h => absurd h (by simp)⟩, by simp, by simp, by simp⟩
  · simp at hcs
    obtain ⟨rfl, rfl, rfl⟩ := hcs
    have hmlen : len ≤ m := by rw [hmm]; split <;> omega
    have hall : ∀ i, ∃ y : Int × Int × Int, i < len → (∀ j u, ([.int k y.1, .int k y.2.1, .int k y.2.2] : List Value)[j]? = some u → w.cell? (a.add (i * 3 + j)) = some u) ∧ (Lit.int k y.1).wf = true ∧ (Lit.int k y.2.1).wf = true ∧ (Lit.int k y.2.2).wf = true := by
      intro i
      by_cases hlt : i < len
      · obtain ⟨cs', hc, htr⟩ := hi' i (by omega)
        obtain ⟨p, q, r, rfl, wp, wq, wr⟩ := st3_cells he hone hC hi t0 t1 t2 htr
        rw [hC] at hc
        obtain ⟨_, _, hat⟩ := World.cells?_some hc
        refine ⟨(p, q, r), fun _ => ⟨fun j u hj => ?_, wp, wq, wr⟩⟩
        have hjl : j < 3 := by
          have := (List.getElem?_eq_some_iff.1 hj).1
          simpa using this
        have := hat j hjl
        rw [Go.Deep.add_add] at this
        rw [this]; exact hj
      · exact ⟨(0, 0, 0), fun h => absurd h hlt⟩
    have hY := fun i => Classical.choose_spec (hall i)
    generalize (fun i => Classical.choose (hall i)) = Y at hY
    refine ⟨(List.range len).map fun i => mk (Classical.choose (hall i)).1 (Classical.choose (hall i)).2.1 (Classical.choose (hall i)).2.2, by simp, ?_, by simp; omega, by simp; exact Nat.le_trans hl hm, ?_⟩
    · refine ⟨rfl, by simp; exact Nat.le_trans (Nat.le_trans hl hm) (by unfold maxLen; omega), fun _ => ⟨a, rfl, fun j p hj => ?_⟩⟩
      rw [List.getElem?_map] at hj
      have hjl : j < len := by
        by_cases g : j < len
        · exact g
        · rw [List.getElem?_eq_none (by simp; omega)] at hj; simp at hj
      rw [List.getElem?_eq_getElem (by simpa using hjl)] at hj
      simp at hj
      subst hj
      refine ⟨_, by rw [hd]; rfl, hk w _ _ _, fun i u hu => ?_⟩
      rw [hd]
      exact (Classical.choose_spec (hall j) hjl).1 i u hu
    · intro y hy
      obtain ⟨i, hi2, rfl⟩ := List.mem_map.1 hy
      have hil : i < len := by simpa using hi2
      have := (Classical.choose_spec (hall i) hil).2
      exact ⟨_, _, _, rfl, this⟩
end

theorem div_add_mul (x N p : Int) (hp : 0 < p) (hd : p ∣ N) : (x + N) / p = x / p + N / p := by
  obtain ⟨q, rfl⟩ := hd
  rw [Int.add_mul_ediv_left _ _ (by omega), Int.mul_ediv_cancel_left _ (by omega)]
/-- A task's demand in a length that is a frame more. -/
theorem of_add (t : T3) (hg : goodTB t.1 t.2.1 t.2.2 = true) (x N : Int) (hx : 0 ≤ x) (hN : 0 ≤ N) (hs : x + N ≤ 1000000) (hd : longS t ∣ N) : ofS t (x + N) = ofS t x + ofS t N := by
  obtain ⟨p, n, s⟩ := t
  have ⟨h1, h2, h3, h4, h5⟩ := goodTB_iff hg
  simp only at h1 h2 h3 h4 h5 hg
  unfold ofS
  simp only [hg, true_and]
  rw [if_pos (show 0 ≤ x + N by omega), if_pos hx, if_pos hN, show min (x + N) 1000000 = x + N by omega, show min x 1000000 = x by omega, show min N 1000000 = N by omega]
  unfold longS at hd
  simp only at hd
  have hp : p ∣ N := Int.dvd_trans (Int.dvd_mul_right p _) hd
  rw [div_add_mul x N p (by omega) hp]
  by_cases h0 : 0 < s
  · rw [if_pos h0, if_pos h0, if_pos h0]
    rw [show max s 1 = s by omega] at hd
    have hs2 : s ∣ N / p := by
      obtain ⟨q, rfl⟩ := hd
      rw [Int.mul_assoc, Int.mul_ediv_cancel_left _ (by omega)]
      exact Int.dvd_mul_right s q
    rw [div_add_mul _ _ s (by omega) hs2, ← Int.add_mul]
    congr 1; omega
  · rw [if_neg h0, if_neg h0, if_neg h0, Int.add_mul]
theorem sum_add (l : List T3) (hg : ∀ t ∈ l, goodTB t.1 t.2.1 t.2.2 = true) (x N : Int) (hx : 0 ≤ x) (hN : 0 ≤ N) (hs : x + N ≤ 1000000) (hd : ∀ t ∈ l, longS t ∣ N) : sumS l (x + N) = sumS l x + sumS l N := by
  induction l with
  | nil => rfl
  | cons t l ih =>
    rw [sumS_cons, sumS_cons, sumS_cons, of_add t (hg t (by simp)) x N hx hN hs (hd t (by simp)), ih (fun u hu => hg u (by simp [hu])) (fun u hu => hd u (by simp [hu]))]
    omega
theorem lcmFrom_least : ∀ (l : List Int) (n N : Nat), n ∣ N → (∀ x ∈ l, x.natAbs ∣ N) → lcmFrom n l ∣ N
  | [], n, N, h, _ => h
  | x :: t, n, N, h, hl => lcmFrom_least t _ N (Nat.lcm_dvd h (hl x (by simp))) (fun y hy => hl y (by simp [hy]))
theorem frame_ok (l : List T3) (h : (frameS l).2 = 0) : l.length ≤ 20 ∧ (∀ t ∈ l, goodTB t.1 t.2.1 t.2.2 = true) ∧ (frameS l).1 = (lcmFrom 1 (l.map longS) : Int) ∧ (lcmFrom 1 (l.map longS) : Int) ≤ 100000 := by
  unfold frameS at h ⊢
  split at h
  · exact absurd h (by decide)
  · rename_i hn
    rw [if_neg hn]
    unfold lcmS at h ⊢
    by_cases g : (∀ x ∈ l.map longS, 1 ≤ x) ∧ (lcmFrom 1 (l.map longS) : Int) ≤ 100000
    · rw [if_pos g]
      refine ⟨?_, ?_, ?_, g.2⟩
      · have : ¬ 20 < l.length := fun x => hn (Or.inl x)
        omega
      · intro t ht
        cases e : goodTB t.1 t.2.1 t.2.2
        · exact absurd (Or.inr (List.any_eq_true.2 ⟨t, ht, by rw [e]; rfl⟩)) hn
        · rfl
      · simp only [if_true]
    · rw [if_neg g] at h; exact absurd h (by decide)
theorem frame_of (l : List T3) (h1 : l.length ≤ 20) (h2 : ∀ t ∈ l, goodTB t.1 t.2.1 t.2.2 = true) (h3 : (lcmFrom 1 (l.map longS) : Int) ≤ 100000) : frameS l = ((lcmFrom 1 (l.map longS) : Int), 0) := by
  have hn : ¬ (20 < l.length ∨ (l.any fun t => !goodTB t.1 t.2.1 t.2.2) = true) := by
    rintro (x | x)
    · omega
    · obtain ⟨t, ht, hx⟩ := List.any_eq_true.1 x
      rw [h2 t ht] at hx; exact absurd hx (by decide)
  have hl : ∀ x ∈ l.map longS, 1 ≤ x := fun x hx => by
    obtain ⟨t, ht, rfl⟩ := List.mem_map.1 hx
    exact (long_bd (h2 t ht)).1
  have e : lcmS 100000 1 (l.map longS) = ((lcmFrom 1 (l.map longS) : Int), true) := by unfold lcmS; exact if_pos ⟨hl, h3⟩
  unfold frameS
  rw [if_neg hn, e]
  simp only [if_true]
/-- What is no more, and within the frame, is held too. -/
theorem holds_less (l m : List T3) (h : (holdsS l).1 = true) (hlen : m.length ≤ 20) (hg : ∀ t ∈ m, goodTB t.1 t.2.1 t.2.2 = true) (hd : ∀ t ∈ m, ∃ u ∈ l, longS u = longS t) (hs : ∀ x, sumS m x ≤ sumS l x) : (holdsS m).1 = true := by
  unfold holdsS at h
  by_cases hf : (frameS l).2 = 0
  · rw [if_pos hf] at h
    have ⟨a1, a2, a3, a4⟩ := frame_ok l hf
    have hdv : lcmFrom 1 (m.map longS) ∣ lcmFrom 1 (l.map longS) := lcmFrom_least _ _ _ (Nat.one_dvd _) fun x hx => by
      obtain ⟨t, ht, rfl⟩ := List.mem_map.1 hx
      obtain ⟨u, hu, e⟩ := hd t ht
      rw [← e]
      exact lcmFrom_mem _ 1 _ (List.mem_map.2 ⟨u, hu, rfl⟩)
    have hpos : 0 < lcmFrom 1 (l.map longS) := lcmFrom_pos _ 1 (by omega) fun x hx => by
      obtain ⟨t, ht, rfl⟩ := List.mem_map.1 hx
      exact (long_bd (a2 t ht)).1
    have hle := Nat.le_of_dvd hpos hdv
    have hfm := frame_of m hlen hg (by omega)
    rw [a3] at h
    unfold holdsS
    rw [hfm, if_pos rfl]
    simp only at h ⊢
    rw [List.all_eq_true] at h ⊢
    intro i hi
    have hi2 := List.mem_range.1 hi
    have := h i (List.mem_range.2 (by omega))
    rw [decide_eq_true_iff] at this ⊢
    unfold allS at this ⊢
    rw [if_neg (by omega)] at this ⊢
    have := hs ((i : Int) + 1)
    omega
  · rw [if_neg hf] at h; exact absurd h (by simp)
theorem sumS_append (a b : List T3) (x : Int) : sumS (a ++ b) x = sumS a x + sumS b x := by
  induction a with
  | nil => simp [sumS]
  | cons t a ih => rw [List.cons_append, sumS_cons, sumS_cons, ih, Int.add_assoc]
theorem of_less (p n s x : Int) (hn : 1 < n) (hg : goodTB p n s = true) : goodTB p (n - 1) s = true ∧ ofS (p, n - 1, s) x ≤ ofS (p, n, s) x := by
  have ⟨h1, h2, h3, h4, h5⟩ := goodTB_iff hg
  have hg' : goodTB p (n - 1) s = true := decide_eq_true (by omega)
  refine ⟨hg', ?_⟩
  unfold ofS
  simp only [hg, hg', true_and]
  by_cases h0 : 0 ≤ x
  · rw [if_pos h0, if_pos h0]
    have hm0 : 0 ≤ min x 1000000 / p := Int.ediv_nonneg (by omega) (by omega)
    generalize min x 1000000 / p = m at *
    have hd : 0 < s → 0 ≤ m / s ∧ m / s ≤ m := fun g => ⟨Int.ediv_nonneg hm0 (by omega), Int.ediv_le_self _ hm0⟩
    exact Int.mul_le_mul_of_nonneg_left (by omega) (by split <;> omega)
  · rw [if_neg h0, if_neg h0]; omega
theorem goods (l : List T3) (h : (frameS l).2 = 0) : ∀ t ∈ l, goodTB t.1 t.2.1 t.2.2 = true := (frame_ok l h).2.1
theorem holds_frame (l : List T3) (h : (holdsS l).1 = true) : (frameS l).2 = 0 := by
  unfold holdsS at h
  by_cases hf : (frameS l).2 = 0
  · exact hf
  · rw [if_neg hf] at h; exact absurd h (by simp)
theorem holds_out (a b : List T3) (t : T3) (h : (holdsS (a ++ t :: b)).1 = true) : (holdsS (a ++ b)).1 = true := by
  have ⟨h1, h2, _, _⟩ := frame_ok _ (holds_frame _ h)
  refine holds_less _ _ h (by simp at h1 ⊢; omega) (fun u hu => h2 u (by simp at hu ⊢; rcases hu with hu | hu <;> simp [hu])) (fun u hu => ⟨u, by simp at hu ⊢; rcases hu with hu | hu <;> simp [hu], rfl⟩) fun x => ?_
  have := of_bd t x
  rw [sumS_append, sumS_append, sumS_cons]; omega
theorem holds_need (a b : List T3) (p n s : Int) (hn : 1 < n) (h : (holdsS (a ++ (p, n, s) :: b)).1 = true) : (holdsS (a ++ (p, n - 1, s) :: b)).1 = true := by
  have ⟨h1, h2, _, _⟩ := frame_ok _ (holds_frame _ h)
  have hg : goodTB p n s = true := h2 (p, n, s) (by simp)
  refine holds_less _ _ h (by simp at h1 ⊢; omega) (fun u hu => ?_) (fun u hu => ?_) fun x => ?_
  · simp only [List.mem_append, List.mem_cons] at hu
    rcases hu with hu | rfl | hu
    · exact h2 u (by simp [hu])
    · exact (of_less p n s 0 hn hg).1
    · exact h2 u (by simp [hu])
  · simp only [List.mem_append, List.mem_cons] at hu
    rcases hu with hu | rfl | hu
    · exact ⟨u, by simp [hu], rfl⟩
    · exact ⟨(p, n, s), by simp, rfl⟩
    · exact ⟨u, by simp [hu], rfl⟩
  · have := (of_less p n s x hn hg).2
    rw [sumS_append, sumS_append, sumS_cons, sumS_cons]; omega
theorem all_add (l : List T3) (h : (frameS l).2 = 0) (x : Int) (hx : 0 ≤ x) (hs : x + (frameS l).1 ≤ 1000000) : allS l (x + (frameS l).1) = allS l x + allS l (frameS l).1 := by
  have ⟨h1, h2, h3, _⟩ := frame_ok l h
  unfold allS
  rw [if_neg (by omega), if_neg (by omega), if_neg (by omega)]
  refine sum_add l h2 x _ hx (by omega) hs fun t ht => ?_
  rw [h3]
  have := long_bd (h2 t ht)
  have hm := lcmFrom_mem (l.map longS) 1 (longS t) (List.mem_map.2 ⟨t, ht, rfl⟩)
  have := Int.natCast_dvd_natCast.2 hm
  rwa [show ((longS t).natAbs : Int) = longS t by omega] at this
theorem allS_bd (l : List T3) (x : Int) : 0 ≤ allS l x ∧ allS l x ≤ 20000000000 := by
  have := sum_bd l x
  unfold allS
  split <;> omega
theorem j2_is (l : List S27) (hlen : l.length ≤ 6) (at' : Int) (ha : 0 ≤ at') (k : Nat) (hk : 9223372036854775901 ≤ k) (hh : (holdsS (l.map qT)).1 = true) : tocsinlaw11_DemandFrames.j2 k l at' true ((l.length : Int) == 0) = some true := by
  obtain ⟨k, rfl⟩ : ∃ m, k = m + 1 := ⟨k - 1, by omega⟩
  simp only [tocsinlaw11_DemandFrames.j2]
  by_cases h0 : (l.length : Int) = 0
  · rw [h0]; simp
  · rw [if_neg (by simpa using h0), if_neg h0, Int.tmod_eq_emod_of_nonneg ha]
    have hm0 := Int.emod_nonneg at' h0
    have hm1 := Int.emod_lt_of_pos at' (show 0 < (l.length : Int) by omega)
    obtain ⟨i, hi⟩ : ∃ i : Nat, at' % (l.length : Int) = i := ⟨(at' % (l.length : Int)).toNat, by omega⟩
    rw [hi] at hm0 hm1 ⊢
    have hi2 : i < l.length := by omega
    have hd := drop_rdT l i hi2
    generalize ht : rd_T27 l (i : Int) = t at *
    obtain ⟨a, b, hab, haL⟩ : ∃ a b, l = a ++ t :: b ∧ a.length = i := ⟨l.take i, l.drop (i + 1), by rw [← hd, List.take_append_drop], by simp; omega⟩
    have e1 : l.take i = a := by rw [hab, ← haL, List.take_left]
    have e2 : l.drop (i + 1) = b := by
      rw [hab, ← haL, List.drop_append, Nat.add_sub_cancel_left, List.drop_of_length_le (by omega)]; rfl
    have e3 : ∀ u, l.set i u = a ++ u :: b := fun u => by rw [hab, ← haL, List.set_append_right _ _ (Nat.le_refl _), Nat.sub_self]; rfl
    have hL : a.length + b.length + 1 = l.length := by rw [hab]; simp; omega
    rw [w64 (x := (i : Int) + 1) (by omega) (by omega)]
    simp only [Option.bind_some, List.nil_append, List.length_nil, Int.toNat_natCast, ht]
    rw [show ((i : Int) + 1).toNat = i + 1 by omega, e1, e2, e3]
    rw [if_pos (by omega), if_pos (by omega), if_pos (by omega), if_pos (by omega), if_pos (by omega), if_pos (by omega), holds_is k _ (by omega)]
    simp only [Option.bind_some]
    rw [if_pos (by omega), if_pos (by omega)]
    have hx : l.map qT = a.map qT ++ qT t :: b.map qT := by rw [hab]; simp
    rw [hx] at hh
    rw [List.map_append, holds_out _ _ _ hh]
    by_cases hn : t.f1 > 1
    · rw [if_pos hn, holds_is k _ (by omega)]
      simp only [Option.bind_some, if_true]
      rw [List.map_append, List.map_cons]
      have hnb : t.f1 ≤ 1000 := by
        have := goods _ (holds_frame _ hh) (qT t) (by simp)
        have := goodTB_iff this
        unfold qT at this; simp only at this; omega
      rw [w64 (x := t.f1 - 1) (by omega) (by omega)]
      have := holds_need _ _ t.f0 t.f1 t.f2 hn hh
      exact congrArg some this
    · rw [if_neg hn, holds_is k _ (by omega)]
      simp only [Option.bind_some, if_true]
      rw [hx, hh]
theorem frames (l : List S27) (long at' : Int) (hl : -9223372036854775808 ≤ long ∧ long ≤ 9223372036854775807) (k : Nat) (hk : 9223372036854775990 ≤ k) : tocsinlaw11_DemandFrames.f k l long at' = some true := by
  have hj0 : ∀ k, 1 ≤ k → tocsinlaw11_DemandFrames.j0 k l long at' true = some true := fun k h => by
    obtain ⟨k, rfl⟩ : ∃ m, k = m + 1 := ⟨k - 1, by omega⟩
    simp [tocsinlaw11_DemandFrames.j0]
  have hj1 : ∀ k n, 1 ≤ k → tocsinlaw11_DemandFrames.j1 k l long at' n true = some true := fun k n h => by
    obtain ⟨k, rfl⟩ : ∃ m, k = m + 1 := ⟨k - 1, by omega⟩
    simp [tocsinlaw11_DemandFrames.j1]
  unfold tocsinlaw11_DemandFrames.f
  rw [awake_is k (by omega)]
  simp only [Option.bind_some, if_true]
  by_cases h1 : (l.length : Int) > 6
  · rw [if_pos h1]; exact hj0 k (by omega)
  · rw [if_neg h1]
    by_cases h2 : long < 0
    · rw [if_pos h2]; exact hj0 k (by omega)
    · rw [if_neg h2]
      by_cases h3 : long > 2000
      · rw [if_pos h3]; exact hj0 k (by omega)
      · rw [if_neg h3]
        by_cases h4 : at' < 0
        · rw [decide_eq_true h4]; exact hj0 k (by omega)
        · rw [decide_eq_false h4]
          obtain ⟨k, rfl⟩ : ∃ m, k = m + 1 := ⟨k - 1, by omega⟩
          simp only [tocsinlaw11_DemandFrames.j0]
          rw [if_neg (by simp), frame_is k l (by omega)]
          simp only [Option.bind_some]
          by_cases hf : (frameS (l.map qT)).2 = 0
          · rw [if_pos hf]
            by_cases h5 : (frameS (l.map qT)).1 > 2000
            · rw [decide_eq_true h5]; exact hj1 k _ (by omega)
            · rw [decide_eq_false h5]
              obtain ⟨k, rfl⟩ : ∃ m, k = m + 1 := ⟨k - 1, by omega⟩
              simp only [tocsinlaw11_DemandFrames.j1]
              have hfb := frame_bd (l.map qT)
              have hadd := all_add (l.map qT) hf long (by omega) (by omega)
              have b1 := allS_bd (l.map qT) long
              have b2 := allS_bd (l.map qT) (frameS (l.map qT)).1
              rw [if_neg (by simp), w64 (x := long + (frameS (l.map qT)).1) (by omega) (by omega), all_is k l _ (by omega) (by omega), all_is k l _ hl (by omega), all_is k l _ (by omega) (by omega)]
              simp only [Option.bind_some]
              rw [w64 (x := allS (l.map qT) long + allS (l.map qT) (frameS (l.map qT)).1) (by omega) (by omega), if_pos hadd, holds_is k l (by omega)]
              simp only [Option.bind_some]
              cases hh : (holdsS (l.map qT)).1
              · obtain ⟨k, rfl⟩ : ∃ m, k = m + 1 := ⟨k - 1, by omega⟩
                simp only [tocsinlaw11_DemandFrames.j2]
                simp
              · simp only [if_true]
                exact j2_is l (by omega) at' (by omega) k (by omega) hh
          · rw [if_neg hf]; exact hj1 k _ (by omega)
theorem own : ownKnob Try.prog.godebug = none := by kernel_rfl
theorem Try.laidOut : laidOutB Try.prog = true := by kernel_rfl
open Go.ChangeShapes Go.WideShapes Go.ChangeAt Go.RowKit
open Go.ChangeMaps (open_string shut_string)
set_option maxRecDepth 100000 in
theorem lifted (os : Os) (started : os.Started) (H : Type) (enc : TypeId × Value → H) :
    ReturnsInHanded {} Try.checked os 5 .any (Rows.demandFramesSpec.pre6 enc Try.prog Try.f5 Rows.demandFramesRow.domain false) (Rows.demandFramesSpec.post enc Try.prog Try.f5 false true false false) := by
  refine returnsInHanded_of_change_sized (C := Try.checked) own started (by kernel_rfl) Try.func5
    (ChangeSpec.witness6 (enc := enc) (C := Try.checked) false ⟨#[], #[.slice none 0 0, .int .i64 0, .int .i64 0], []⟩ 8 (by kernel_rfl) (by kernel_rfl) (by kernel_rfl) (by kernel_rfl)) ?_
  intro W base args ds gs before hval0 hW hcnd hsz0 _
  have hsz : (DataW.weightsEach Try.prog (Try.f5.params.toList ++ Rows.demandFramesSpec.plain.varTypes Try.prog) (ds ++ gs)).all (· ≤ reachBytes) = true := hsz0
  have hval : ∀ (j : Nat) t v, Try.f5.params[j]? = some t → args[j]? = some v → Value.okWide Try.prog W .any base t v := hval0
  have hW' := hW
  obtain ⟨p, q, hA0, hV, rfl, hfz, hnd⟩ := hW
  have hA : DataW.TrodAll enc Try.prog W 0 (fun _ => true) true Try.f5.params.toList args.toList ds p := hA0
  rw [Try.params5] at hA hval hsz
  obtain ⟨v0, vs0, d0, ds0, p0, q0, hargs, rfl, rfl, h0, r0⟩ := trodAll_cons hA
  obtain ⟨v1, vs1, d1, ds1, p1, q1, rfl, rfl, rfl, h1, r1⟩ := trodAll_cons r0
  obtain ⟨v2, vs2, d2, ds2, p2, q2, rfl, rfl, rfl, h2, r2⟩ := trodAll_cons r1
  obtain ⟨rfl, rfl, rfl⟩ := trodAll_nil r2
  obtain rfl : args = #[v0, v1, v2] := by cases args; simp_all
  obtain ⟨rfl, rfl⟩ := trodVars_none hV
  have k0 := h0
  have k1 := h1
  have k2 := h2
  have lt0 : ∀ x ∈ p0, x.block < W.heap.size := by obtain ⟨m, hm⟩ := k0; exact DataW.trod_lt m _ _ _ hm
  have lt1 : ∀ x ∈ p1, x.block < W.heap.size := by obtain ⟨m, hm⟩ := k1; exact DataW.trod_lt m _ _ _ hm
  have lt2 : ∀ x ∈ p2, x.block < W.heap.size := by obtain ⟨m, hm⟩ := k2; exact DataW.trod_lt m _ _ _ hm
  obtain ⟨a0, len0, cap0, rfl⟩ := okWide_slice Try.underlying28 (hval 0 28 v0 rfl rfl)
  obtain ⟨fuel0, hf0⟩ := h0
  obtain ⟨l0, rfl, hr0, hc0, hm0, hw0⟩ := st3_row Try.underlying28 Try.underlying27 (by kernel_rfl) (by kernel_rfl) Try.underlying3 rfl rfl rfl k27 rfl (fun a b c => (⟨a, b, c⟩ : S27)) (fun w a b c => k27_mk w ⟨a, b, c⟩) (by simpa [Value.cells] using hf0)
  obtain ⟨a1, rfl, rfl, rfl, w1⟩ := open_int Try.underlying3 (hval 1 3 v1 rfl rfl) h1
  obtain ⟨a2, rfl, rfl, rfl, w2⟩ := open_int Try.underlying3 (hval 2 3 v2 rfl rfl) h2
  clear hA0 hval0 hsz0 hsz
  refine (tocsinlaw11_DemandFrames.calls 9223372036854775990 a0 cap0 l0 a1 a2 true W hr0 hc0 (frames l0 a1 a2 (wf_i64 w1) _ (Nat.le_refl _))).mono fun e W' ⟨he, bel⟩ => ?_
  subst he
  exact ⟨_, rfl, _, _, _, _, _, [], hW', trodAll_mk1 (shut_bool Try.underlying4 _), (trodAll_cons_mk (Below.trod Try.laidOut (by kernel_rfl) (of_decide_eq_true (by kernel_rfl)) k0 bel lt0) (trodAll_cons_mk (Below.trod Try.laidOut (by kernel_rfl) (of_decide_eq_true (by kernel_rfl)) k1 bel lt1) (trodAll_cons_mk (Below.trod Try.laidOut (by kernel_rfl) (of_decide_eq_true (by kernel_rfl)) k2 bel lt2) trodAll_mk0))), rfl, bel.frame _, fun h => by cases h⟩
theorem over : Rows.demandFramesRow.holds Try.pinned (OpenSpec.ofChange Rows.demandFramesSpec) :=
  OpenClaim.holds_of_wide 5 Try.f5 rfl rfl rfl rfl rfl rfl rfl ⟨rfl, rfl, rfl, rfl, rfl⟩ rfl rfl rfl rfl rfl (by kernel_rfl) Try.func5 (by kernel_rfl)
    (of_decide_eq_true (by kernel_rfl)) (by unfold Func.isWrapper; first | (rw [if_pos (by decide +kernel)]; kernel_rfl) | (rw [if_neg (by decide +kernel)]; exact ⟨rfl, rfl⟩))
    (fun os started H enc _ => lifted os started H enc)
end Go.Proofs.Yticnfjoodcacmaa.Pure
namespace Go.Proofs.Yticnfjoodcacmaa
/-- The row, under a short name, for the claim. -/
theorem demandFrames_holds : Rows.DemandFramesSaid := Pure.over
end Go.Proofs.Yticnfjoodcacmaa
#print axioms Go.Proofs.Yticnfjoodcacmaa.demandFrames_holds
namespace Go.Proofs.Yticnfjoodcacmaa.Pure

end Go.Proofs.Yticnfjoodcacmaa.Pure
