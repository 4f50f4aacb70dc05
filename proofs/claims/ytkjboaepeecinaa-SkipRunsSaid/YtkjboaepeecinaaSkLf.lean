/- The lives of the reference's jobs as they lie in a row; the contract of their colour. -/
import Derived.Test.YtkjboaepeecinaaPSkx0
import Derived.Test.YtkjboaepeecinaaSkCol
namespace Go.Proofs.Ytkjboaepeecinaa.PSk
open Go.RowKit Go.Proofs.Ytkjboaepeecinaa.PSk Go.Proofs.YtkjboaepeecinaaW.PrintWords Go.Proofs.YtkjboaepeecinaaW.PrintLast Go.Proofs.YtkjboaepeecinaaW.PrintMore 
set_option linter.unusedVariables false
set_option linter.unusedSimpArgs false

def LfQ (W : World) (b : Nat) (g o n cap : Nat) (xs : List S68) : Prop := Kd.Q k68 68 W b (fun _ => True) (.slice (some ⟨g, o, none⟩) n cap) xs
def lfC (x : S68) : List Value := [.int .i64 x.f0, .int .i64 x.f1, .int .i64 x.f2, .bool x.f3, .bool x.f4]
theorem lf_cells {W : World} {b g o n cap : Nat} {xs : List S68} (h : LfQ W b g o n cap xs) (i : Int) (h0 : 0 ≤ i) (h1 : i < n) (x : S68) (hx : xs.getD i.toNat z68 = x) :
    (∀ j u, (lfC x)[j]? = some u → W.cell? ⟨g, o + i.toNat * 5 + j, none⟩ = some u) ∧ ∀ j, W.frozen? ⟨g, o + i.toNat * 5 + j, none⟩ = false := by
  obtain ⟨c, hl, hM, hc, hf⟩ := Kd.Q_elem h z68 i h0 h1
  have e := k68_openM hM
  rw [hx] at e
  subst e
  exact ⟨hc, hf⟩
theorem lf_put {W : World} {b g o n cap : Nat} {xs : List S68} (h : LfQ W b g o n cap xs) (i : Int) (h0 : 0 ≤ i) (h1 : i < n) (x : S68) (hx : xs.getD i.toNat z68 = x) (j : Nat) (hj : j < 5) (u : Value) (y : S68) (hy : (lfC x).set j u = lfC y) :
    LfQ (W.setCell ⟨g, o + i.toNat * 5 + j, none⟩ u) b g o n cap (xs.set i.toNat y) ∧ W.grownBy (W.setCell ⟨g, o + i.toNat * 5 + j, none⟩ u) (some g) := by
  obtain ⟨c, hl, hM, hc, hf⟩ := Kd.Q_elem h z68 i h0 h1
  have e := k68_openM hM
  rw [hx] at e
  subst e
  have hc' : ∀ j u, (lfC x)[j]? = some u → W.cell? ⟨g, o + i.toNat * 5 + j, none⟩ = some u := hc
  have := Kd.Q_seg (d := k68) (okp := fun k => True ∧ k ≠ g) h i h0 h1 (c := lfC x) (seg := [u]) (j := j) rfl hc' (show j + 1 ≤ 5 by omega) (x' := y) (by
    have e : (lfC x).take j ++ [u] ++ (lfC x).drop (j + 1) = (lfC x).set j u := by
      rw [List.set_eq_take_append_cons_drop, if_pos (show j < (lfC x).length from hj), List.append_assoc]
      rfl
    show k68.M _ _ _ _ ((lfC x).take j ++ [u] ++ (lfC x).drop (j + 1))
    rw [e, hy]
    exact k68_mkM _ _ _ y) (fun k hk => hk)
  exact this
theorem lf_reads {W : World} {b g o n cap : Nat} {xs : List S68} (h : LfQ W b g o n cap xs) : n = xs.length ∧ n ≤ cap ∧ Kd.C k68 W (some ⟨g, o, none⟩) n xs := by
  obtain ⟨h1, h2, h3⟩ := Kd.Q_reads' h
  subst h1
  exact ⟨rfl, h2, h3⟩
theorem lf_typed {W : World} {b g o n cap : Nat} {xs : List S68} (h : LfQ W b g o n cap xs) : b ≤ g ∧ ∃ cells, W.heap[g]? = some (.cells cells 68 (0, 0)) := by
  obtain ⟨hb, cells, hc⟩ : b ≤ g ∧ ∃ cells, W.heap[g]? = some (.cells cells 68 (0, 0)) := by
    have hq := Kd.Q_bound h
    have := hq.1 g (by simp [Value.ownBlock])
    obtain ⟨_, inner, ho, _⟩ := h
    exact ⟨this.2.1, (q_typed ho g (by simp [Value.ownBlock])).2⟩
  exact ⟨hb, cells, hc⟩
/-- What the reference's colour does to a life, and what it tells. -/
def colL (s : Int) (blue met : Bool) (x : S68) : Bool × Int :=
  if s = 0 then (true, x.f2) else if blue = false then (decide ((x.f0 + 1).tmod s ≠ 0), x.f2)
  else if x.f3 = true ∧ x.f4 = false ∧ met = true then (false, x.f2)
  else (decide ((if x.f3 = true ∧ x.f4 = false then 0 else x.f2) + 1 < s), (if x.f3 = true ∧ x.f4 = false then 0 else x.f2) + 1)
def ColL (W0 W w' : World) (g q : Nat) (cur : Array Value) (e : Ending) (r : Bool × Int) : Prop :=
  e = .returned (.bool r.1) ∧ KeepBut W w' g none ∧ Below W0.heap.size W0 w' ∧ w'.heap[g]? = some (.cells (cur.setIfInBounds (q + 2) (.int .i64 r.2)) 68 (0, 0))
theorem set_same {cur : Array Value} {i : Nat} {u : Value} (h : cur[i]? = some u) : cur.setIfInBounds i u = cur := by
  apply Array.ext_getElem?
  intro j
  rw [Array.getElem?_setIfInBounds]
  split
  · rename_i hij
    subst hij
    obtain ⟨hl, e⟩ := Array.getElem?_eq_some_iff.1 h
    rw [if_pos hl, h]
  · rfl
theorem keep_alloc {W w' : World} {g : Nat} (h : KeepBut W w' g none) (o : Obj) : KeepBut W (w'.alloc o) g none := ⟨by rw [World.size_alloc]; have := h.1; omega, fun k hk hne hr => (Below.heap_alloc w' o k (by have := h.1; omega)).trans (h.2 k hk hne hr)⟩
attribute [local go_sem] max2_int min2_int max_two min_two
set_option maxHeartbeats 4000000 in
set_option maxRecDepth 100000 in
theorem colL_c (W0 W : World) (g q : Nat) (cur : Array Value) (x : S68) (p need s : Int) (blue met : Bool) (hK : W.heap[g]? = some (.cells cur 68 (0, 0))) (hc : ∀ j u, (lfC x)[j]? = some u → W.cell? ⟨g, q + j, none⟩ = some u) (hf : ∀ j, W.frozen? ⟨g, q + j, none⟩ = false) (hB : Below W0.heap.size W0 W) (hg : W0.heap.size ≤ g) (hx : (0 ≤ x.f0 ∧ x.f0 ≤ 1000000) ∧ (0 ≤ x.f2 ∧ x.f2 ≤ 1000000)) (hs : 0 ≤ s ∧ s ≤ 1000) :
    Calls Try.prog 25 #[.pointer (some ⟨g, q, none⟩), .agg #[.int .i64 p, .int .i64 need, .int .i64 s], .bool blue, .bool met] W fun e w' => ColL W0 W w' g q cur e (colL s blue met x) := by
  obtain ⟨n, ran, reds, is, red⟩ := x
  obtain ⟨⟨n0, n1⟩, r0, r1⟩ := hx
  simp only at n0 n1 r0 r1
  have c0 : W.cell? ⟨g, q, none⟩ = some (.int .i64 n) := hc 0 _ rfl
  have c2 : W.cell? ⟨g, q + 2, none⟩ = some (.int .i64 reds) := hc 2 _ rfl
  have c3 : W.cell? ⟨g, q + 3, none⟩ = some (.bool is) := hc 3 _ rfl
  have c4 : W.cell? ⟨g, q + 4, none⟩ = some (.bool red) := hc 4 _ rfl
  have f2 := hf 2
  have HB1 := Aside0.mk (below_alloc hB (.cells #[.int .i64 p, .int .i64 need, .int .i64 s] 66))
  have HK1 := Aside0.mk (keep_alloc (keep_refl W g) (.cells #[.int .i64 p, .int .i64 need, .int .i64 s] 66))
  have HX := Aside0.mk (blk_alloc hK (.cells #[.int .i64 p, .int .i64 need, .int .i64 s] 66))
  have HG := Aside0.mk hg
  have HS0 : Aside0 (cur.setIfInBounds (q + 2) (.int .i64 reds) = cur) := ⟨set_same (by rw [← c2]; exact (blk_cell hK (q + 2)).symm)⟩
  have hgne : g ≠ W.heap.size := Nat.ne_of_lt (blk_lt hK)
  have hw1 : wrap64 (n + 1) = n + 1 := by simp only [wrap64]; omega
  have hw2 : wrap64 (reds + 1) = reds + 1 := by simp only [wrap64]; omega
  have hq0 : W.cell? ⟨g, q + 2, none⟩ = some (.int .i64 reds) := c2
  have d0 : (W.alloc (.cells #[.int .i64 p, .int .i64 need, .int .i64 s] 66)).cell? ⟨g, q, none⟩ = some (.int .i64 n) := (World.cell?_alloc_lt _ _ _ (World.block_lt_of_cell? _ _ c0)).trans c0
  have d2 : (W.alloc (.cells #[.int .i64 p, .int .i64 need, .int .i64 s] 66)).cell? ⟨g, q + 2, none⟩ = some (.int .i64 reds) := (World.cell?_alloc_lt _ _ _ (World.block_lt_of_cell? _ _ c2)).trans c2
  have d3 : (W.alloc (.cells #[.int .i64 p, .int .i64 need, .int .i64 s] 66)).cell? ⟨g, q + 3, none⟩ = some (.bool is) := (World.cell?_alloc_lt _ _ _ (World.block_lt_of_cell? _ _ c3)).trans c3
  have d4 : (W.alloc (.cells #[.int .i64 p, .int .i64 need, .int .i64 s] 66)).cell? ⟨g, q + 4, none⟩ = some (.bool red) := (World.cell?_alloc_lt _ _ _ (World.block_lt_of_cell? _ _ c4)).trans c4
  have g2 := blk_frozen HX.out (q + 2)
  have HQ2 : Aside0 (q + 2 < cur.size) := ⟨(Array.getElem?_eq_some_iff.1 ((blk_cell hK (q + 2)).symm.trans c2)).1⟩
  have HBX := Aside0.mk (blk_new W (.cells #[.int .i64 p, .int .i64 need, .int .i64 s] 66))
  clear hc hf hB hg hK
  by_cases h0 : s = 0
  · subst h0
    go_enter Try.func25, Try.ntmps25
    go_wp2
    go_ret
    exact ⟨rfl, HK1.out, HB1.out, by show _ = some (Obj.cells (cur.setIfInBounds (q + 2) (Value.int .i64 reds)) _ _); rw [HS0.out]; exact HX.out⟩
  · have z0 : (s == 0) = false := by simpa using h0
    cases blue with
    | false =>
      have hcol : colL s false met ⟨n, ran, reds, is, red⟩ = (decide ((n + 1).tmod s ≠ 0), reds) := by unfold colL; rw [if_neg h0, if_pos rfl]
      rw [hcol]
      clear hcol
      go_enter Try.func25, Try.ntmps25
      go_wp2
      go_quiet (fail)
      go_wp2
      go_ret
      refine ⟨?_, keep_drewN HK1.out _, pw_below_drewN HB1.out _, by show _ = some (Obj.cells (cur.setIfInBounds (q + 2) (Value.int .i64 reds)) _ _); rw [HS0.out]; exact HX.out⟩
      show Ending.returned (.bool ((n + 1) % s != 0)) = .returned (.bool (decide ((n + 1).tmod s ≠ 0)))
      rw [Int.tmod_eq_emod_of_nonneg (show 0 ≤ n + 1 by omega)]
      by_cases hq : (n + 1) % s = 0 <;> simp [hq]
    | true =>
      by_cases hm : is = true ∧ red = false ∧ met = true
      · obtain ⟨rfl, rfl, rfl⟩ := hm
        have hcol : colL s true true ⟨n, ran, reds, true, false⟩ = (false, reds) := by unfold colL; rw [if_neg h0, if_neg (by decide), if_pos ⟨rfl, rfl, rfl⟩]
        rw [hcol]
        clear hcol
        go_enter Try.func25, Try.ntmps25
        go_wp2
        go_ret
        exact ⟨rfl, HK1.out, HB1.out, by show _ = some (Obj.cells (cur.setIfInBounds (q + 2) (Value.int .i64 reds)) _ _); rw [HS0.out]; exact HX.out⟩
      · by_cases hr : is = true ∧ red = false
        · obtain ⟨rfl, rfl⟩ := hr
          have hmf : met = false := by cases met with
            | false => rfl
            | true => exact absurd ⟨rfl, rfl, rfl⟩ hm
          subst hmf
          have hcol : colL s true false ⟨n, ran, reds, true, false⟩ = (decide (1 < s), 1) := by unfold colL; rw [if_neg h0, if_neg (by decide), if_neg (by simp)]; simp
          rw [hcol]
          clear hcol hm
          go_enter Try.func25, Try.ntmps25
          go_wp2
          have HY := Aside0.mk (blk_put (cs' := cur.setIfInBounds (q + 2) (.int .i64 1)) (blk_set HX.out (q + 2) (.int .i64 0)) (q + 2) (.int .i64 1) (by simp))
          have HB2 := Aside0.mk (low_set (low_set HB1.out HG.out (q + 2) (.int .i64 0)) HG.out (q + 2) (.int .i64 1))
          have HK2 := Aside0.mk (keep_set (keep_set HK1.out (q + 2) (.int .i64 0)) (q + 2) (.int .i64 1))
          have HBx := Aside0.mk (blk_far (blk_far HBX.out (p := ⟨g, q + 2, none⟩) (Ne.symm hgne) (.int .i64 0)) (p := ⟨g, q + 2, none⟩) (Ne.symm hgne) (.int .i64 1))
          clear g2 d0 d2 d3 d4 HX HB1 HK1 HBX hq0
          generalize (((W.alloc (.cells #[.int .i64 p, .int .i64 need, .int .i64 s] 66)).setCell ⟨g, q + 2, none⟩ (.int .i64 0)).setCell ⟨g, q + 2, none⟩ (.int .i64 1)) = Wz at HY HB2 HK2 HBx ⊢
          have e2 : Wz.cell? ⟨g, q + 2, none⟩ = some (.int .i64 (1)) := (blk_cell HY.out (q + 2)).trans (Array.getElem?_setIfInBounds_self_of_lt HQ2.out)
          have e3 : Wz.cell? ⟨W.heap.size, 2, none⟩ = some (.int .i64 s) := (blk_cell HBx.out 2).trans rfl
          clear c0 c2 c3 c4 f2
          go_quiet (fail)
          go_wp2
          go_ret
          exact ⟨rfl, keep_drewN HK2.out _, pw_below_drewN HB2.out _, blk_drewN HY.out _⟩
        · have hcol : colL s true met ⟨n, ran, reds, is, red⟩ = (decide (reds + 1 < s), reds + 1) := by
            unfold colL
            rw [if_neg h0, if_neg (by decide), if_neg (by simpa using hm), if_neg (show ¬ (is = true ∧ red = false) from hr)]
          rw [hcol]
          clear hcol hm
          have hz : (is = true ∧ red = true) ∨ is = false := by cases is <;> cases red <;> simp_all
          rcases hz with ⟨rfl, rfl⟩ | rfl
          · go_enter Try.func25, Try.ntmps25
            go_wp2
            have HY := Aside0.mk (blk_set HX.out (q + 2) (.int .i64 (reds + 1)))
            have HB2 := Aside0.mk (low_set HB1.out HG.out (q + 2) (.int .i64 (reds + 1)))
            have HK2 := Aside0.mk (keep_set HK1.out (q + 2) (.int .i64 (reds + 1)))
            have HBx := Aside0.mk (blk_far HBX.out (p := ⟨g, q + 2, none⟩) (Ne.symm hgne) (.int .i64 (reds + 1)))
            clear g2 d0 d2 d3 d4 HX HB1 HK1 HBX hq0
            generalize ((W.alloc (.cells #[.int .i64 p, .int .i64 need, .int .i64 s] 66)).setCell ⟨g, q + 2, none⟩ (.int .i64 (reds + 1))) = Wz at HY HB2 HK2 HBx ⊢
            have e2 : Wz.cell? ⟨g, q + 2, none⟩ = some (.int .i64 (reds + 1)) := (blk_cell HY.out (q + 2)).trans (Array.getElem?_setIfInBounds_self_of_lt HQ2.out)
            have e3 : Wz.cell? ⟨W.heap.size, 2, none⟩ = some (.int .i64 s) := (blk_cell HBx.out 2).trans rfl
            clear c0 c2 c3 c4 f2
            go_quiet (fail)
            go_wp2
            go_ret
            exact ⟨rfl, keep_drewN HK2.out _, pw_below_drewN HB2.out _, blk_drewN HY.out _⟩
          · go_enter Try.func25, Try.ntmps25
            go_wp2
            have HY := Aside0.mk (blk_set HX.out (q + 2) (.int .i64 (reds + 1)))
            have HB2 := Aside0.mk (low_set HB1.out HG.out (q + 2) (.int .i64 (reds + 1)))
            have HK2 := Aside0.mk (keep_set HK1.out (q + 2) (.int .i64 (reds + 1)))
            have HBx := Aside0.mk (blk_far HBX.out (p := ⟨g, q + 2, none⟩) (Ne.symm hgne) (.int .i64 (reds + 1)))
            clear g2 d0 d2 d3 d4 HX HB1 HK1 HBX hq0
            generalize ((W.alloc (.cells #[.int .i64 p, .int .i64 need, .int .i64 s] 66)).setCell ⟨g, q + 2, none⟩ (.int .i64 (reds + 1))) = Wz at HY HB2 HK2 HBx ⊢
            have e2 : Wz.cell? ⟨g, q + 2, none⟩ = some (.int .i64 (reds + 1)) := (blk_cell HY.out (q + 2)).trans (Array.getElem?_setIfInBounds_self_of_lt HQ2.out)
            have e3 : Wz.cell? ⟨W.heap.size, 2, none⟩ = some (.int .i64 s) := (blk_cell HBx.out 2).trans rfl
            clear c0 c2 c3 c4 f2
            go_quiet (fail)
            go_wp2
            go_ret
            exact ⟨rfl, keep_drewN HK2.out _, pw_below_drewN HB2.out _, blk_drewN HY.out _⟩

end Go.Proofs.Ytkjboaepeecinaa.PSk
