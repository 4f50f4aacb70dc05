/- tocsinlaw3.NameRunes, over the listed tables: a walk by hand (it ranges over a text). -/
import Derived.Test.YtfoafigpimhppaaDoorPNmx1
import Derived.Test.YtfoafigpimhppaaDoorNumPlain
import Derived.Lib.ValidLaws
import Derived.PinnedBridge
import Derived.Lib.LaidU8T
import Derived.Lib.LaidRTab
import Derived.Test.YtfoafigpimhppaaDoorCards
import Derived.Test.YtfoafigpimhppaaDoorTie
import Derived.LaidMore
import Derived.Stop.Joined
import Derived.SevenTiedAt
import Derived.Lib.LaidTab
import Derived.Lay
import Derived.LaidOnce
import Derived.Test.YtfoafigpimhppaaDoorRows
import Derived.WalkKit
import Derived.ProofKit
import Derived.OpenShut
import Derived.ShutString
import Derived.ChangeOld
import Derived.Below
import Derived.SizedLaws
import Derived.Carry
import Derived.Lib.SmallJoins
import Derived.Test.YtfoafigpimhppaaDoorWSized
namespace Go.Proofs.YtfoafigpimhppaaDoor.Pure
open Go.RowKit Go.Proofs.YtfoafigpimhppaaDoor.PNm Go.Proofs.YtfoafigpimhppaaDoorW.PrintWords Go.Proofs.YtfoafigpimhppaaDoorW.PrintLast Go.Proofs.YtfoafigpimhppaaDoorW.PrintMore Go.Shelf Go.Lib
set_option linter.unusedVariables false
set_option linter.unusedSimpArgs false


theorem goodF_valid (s : ByteArray) : ∀ f p n m, s.size ≤ p + f → p ≤ s.size → goodF (runesF s f p) n = some m → validD ((bL s).drop p) = true := by
  intro f
  have ends : ∀ p, p = s.size → validD ((bL s).drop p) = true := by
    rintro p rfl
    rw [List.drop_eq_nil_of_le (by rw [bL_len]; exact Nat.le_refl _)]
    rfl
  induction f with
  | zero => intro p n m h0 h1 _; exact ends p (by omega)
  | succ f ih =>
    intro p n m h0 h1 h
    by_cases hp : p < s.size
    · rw [runesF_step s f p hp] at h
      have hF := decode_fits s p hp
      have hK := Lib.decode_width_pos s p hp
      have hne : (bL s).drop p ≠ [] := by
        intro e
        have := congrArg List.length e
        rw [List.length_drop, bL_len] at this
        simp only [List.length_nil] at this
        omega
      rw [validD_step _ hne, show decodeL ((bL s).drop p) = Utf8.decode s p from decodeL_drop s p, List.drop_drop]
      simp only [goodF] at h
      split at h
      · rename_i hc
        have hr : (Utf8.decode s p).1 ≠ 65533 := by
          intro e
          rw [e] at hc
          simp only [Bool.or_eq_true, Bool.and_eq_true, decide_eq_true_eq] at hc
          rcases hc with hc | ⟨_, hc | hc⟩
          · exact (letter_not _ hc).1 rfl
          · simp [isDig] at hc
          · omega
        rw [if_neg (fun hx => hr hx.1)]
        exact ih (p + (Utf8.decode s p).2) _ m (by omega) (by omega) h
      · cases h
    · exact ends p (by omega)
theorem decodeN_loc (n n' b0 b1 b2 b3 c1 c2 c3 : Nat) (h : (decodeN n b0 b1 b2 b3).1 ≠ 65533) (hn : (decodeN n b0 b1 b2 b3).2 ≤ n')
    (h1 : 2 ≤ (decodeN n b0 b1 b2 b3).2 → c1 = b1) (h2 : 3 ≤ (decodeN n b0 b1 b2 b3).2 → c2 = b2) (h3 : 4 ≤ (decodeN n b0 b1 b2 b3).2 → c3 = b3) :
    decodeN n' b0 c1 c2 c3 = decodeN n b0 b1 b2 b3 := by
  by_cases e0 : b0 < 128
  · unfold decodeN; rw [if_pos e0, if_pos e0]
  by_cases e1 : b0 / 32 = 6 ∧ (1 < n ∧ b1 / 64 = 2)
  · have ev : decodeN n b0 b1 b2 b3 = (if b0 % 32 * 64 + b1 % 64 ≥ 128 then (b0 % 32 * 64 + b1 % 64, 2) else (65533, 1)) := by unfold decodeN; rw [if_neg e0, if_pos e1]
    rw [ev] at h hn h1 ⊢
    split at h
    · rename_i g
      rw [if_pos g] at hn h1 ⊢
      obtain rfl := h1 (Nat.le_refl 2)
      unfold decodeN
      rw [if_neg e0, if_pos ⟨e1.1, by simp only at hn; omega, e1.2.2⟩, if_pos g]
    · exact absurd rfl h
  by_cases e2 : b0 / 16 = 14 ∧ (1 < n ∧ b1 / 64 = 2) ∧ (2 < n ∧ b2 / 64 = 2)
  · unfold decodeN at h hn h1 h2
    rw [if_neg e0, if_neg e1, if_pos e2] at h hn h1 h2
    split at h
    · rename_i g
      rw [if_pos g] at hn h1 h2
      obtain rfl := h1 (show 2 ≤ 3 by decide)
      obtain rfl := h2 (Nat.le_refl 3)
      unfold decodeN
      rw [if_neg e0, if_neg (by omega), if_pos ⟨e2.1, ⟨by simp only at hn; omega, e2.2.1.2⟩, by simp only at hn; omega, e2.2.2.2⟩, if_neg e0, if_neg e1, if_pos e2]
    · exact absurd rfl h
  by_cases e3 : b0 / 8 = 30 ∧ (1 < n ∧ b1 / 64 = 2) ∧ (2 < n ∧ b2 / 64 = 2) ∧ (3 < n ∧ b3 / 64 = 2)
  · unfold decodeN at h hn h1 h2 h3
    rw [if_neg e0, if_neg e1, if_neg e2, if_pos e3] at h hn h1 h2 h3
    split at h
    · rename_i g
      rw [if_pos g] at hn h1 h2 h3
      obtain rfl := h1 (show 2 ≤ 4 by decide)
      obtain rfl := h2 (show 3 ≤ 4 by decide)
      obtain rfl := h3 (Nat.le_refl 4)
      unfold decodeN
      rw [if_neg e0, if_neg (by omega), if_neg (by omega), if_pos ⟨e3.1, ⟨by simp only at hn; omega, e3.2.1.2⟩, ⟨by simp only at hn; omega, e3.2.2.1.2⟩, by simp only at hn; omega, e3.2.2.2.2⟩, if_neg e0, if_neg e1, if_neg e2, if_pos e3]
    · exact absurd rfl h
  · exfalso
    unfold decodeN at h
    rw [if_neg e0, if_neg e1, if_neg e2, if_neg e3] at h
    exact h rfl
theorem decode_bL (s : ByteArray) (p : Nat) : Utf8.decode s p = decodeN ((bL s).length - p) ((bL s).getD p 0).toNat ((bL s).getD (p + 1) 0).toNat ((bL s).getD (p + 2) 0).toNat ((bL s).getD (p + 3) 0).toNat := Lib.decode_N s p
theorem decode_loc (s t : ByteArray) (p : Nat) (hr : (Utf8.decode s p).1 ≠ 65533) (hp : p < s.size) (ht : (bL t).take (p + (Utf8.decode s p).2) = (bL s).take (p + (Utf8.decode s p).2)) (hts : p + (Utf8.decode s p).2 ≤ t.size) : Utf8.decode t p = Utf8.decode s p := by
  have hK := Lib.decode_width_pos s p hp
  have hg : ∀ j, j < p + (Utf8.decode s p).2 → (bL t).getD j 0 = (bL s).getD j 0 := by
    intro j hj
    have := congrArg (fun l => l.getD j 0) ht
    simpa [List.getD_eq_getElem?_getD, List.getElem?_take, hj] using this
  generalize hKe : (Utf8.decode s p).2 = K at *
  rw [decode_bL s p] at hr hKe ⊢
  rw [decode_bL t p]
  rw [hg p (by omega)]
  have hl := bL_len t
  refine decodeN_loc _ _ _ _ _ _ _ _ _ hr (by rw [hKe]; omega) (fun h => ?_) (fun h => ?_) (fun h => ?_)
  · rw [hKe] at h; rw [hg (p + 1) (by omega)]
  · rw [hKe] at h; rw [hg (p + 2) (by omega)]
  · rw [hKe] at h; rw [hg (p + 3) (by omega)]
theorem runesF_fuel (s : ByteArray) : ∀ f f' p, s.size ≤ p + f → s.size ≤ p + f' → runesF s f p = runesF s f' p := by
  intro f
  induction f with
  | zero => intro f' p h h'; rw [runesF_end s 0 p (by omega), runesF_end s f' p (by omega)]
  | succ f ih =>
    intro f' p h h'
    by_cases hp : p < s.size
    · obtain ⟨g, rfl⟩ : ∃ g, f' = g + 1 := ⟨f' - 1, by omega⟩
      have hK := Lib.decode_width_pos s p hp
      rw [runesF_step s f p hp, runesF_step s g p hp, ih g _ (by omega) (by omega)]
    · rw [runesF_end s _ p hp, runesF_end s f' p hp]
/-- a rune's beginning, reached after n runes: whatever text begins so comes there too -/
def Bnd (s : ByteArray) (p n : Nat) : Prop := ∀ t : ByteArray, (bL t).take p = (bL s).take p → p ≤ t.size → ∀ f, t.size ≤ p + f → goodF (runes t) 0 = goodF (runesF t f p) n
theorem bnd_start (s : ByteArray) : Bnd s 0 0 := by
  intro t _ _ f hf
  unfold runes
  rw [runesF_fuel t t.size f 0 (by omega) hf]
def accept (r n : Nat) : Bool := Lib.isLetterU (r : Int) || (!decide (n = 0) && (isDig r || decide (r = 95)))
theorem goodF_step (p r : Nat) (t : List (Nat × Nat)) (n : Nat) : goodF ((p, r) :: t) n = if accept r n = true then goodF t (n + 1) else none := rfl
theorem accept_ne (r n : Nat) (h : accept r n = true) : r ≠ 65533 := by
  intro e
  rw [e] at h
  unfold accept at h
  simp only [Bool.or_eq_true, Bool.and_eq_true, decide_eq_true_eq] at h
  rcases h with hc | ⟨_, hc | hc⟩
  · exact (letter_not _ hc).1 rfl
  · simp [isDig] at hc
  · omega
theorem bnd_step (s : ByteArray) (p n : Nat) (h : Bnd s p n) (hp : p < s.size) (ha : accept (Utf8.decode s p).1 n = true) : Bnd s (p + (Utf8.decode s p).2) (n + 1) := by
  intro t ht hts f hf
  have hK := Lib.decode_width_pos s p hp
  have hd := decode_loc s t p (accept_ne _ _ ha) hp ht hts
  have ht0 : (bL t).take p = (bL s).take p := by
    have := congrArg (fun l => l.take p) ht
    simpa [List.take_take, Nat.min_eq_left (show p ≤ p + (Utf8.decode s p).2 by omega)] using this
  have := h t ht0 (by omega) (f + (Utf8.decode s p).2) (by omega)
  rw [this]
  obtain ⟨k, hk⟩ : ∃ k, f + (Utf8.decode s p).2 = k + 1 := ⟨f + (Utf8.decode s p).2 - 1, by omega⟩
  rw [hk, runesF_step t k p (by omega), hd, goodF_step, if_pos ha]
  rw [runesF_fuel t k f _ (by omega) hf]
theorem bnd_prefix (s : ByteArray) (p n : Nat) (h : Bnd s p n) (hp : p ≤ s.size) (h1 : 1 ≤ n) (h20 : n ≤ 20) : goodB (s.extract 0 p) = true := by
  have hb : bL (s.extract 0 p) = (bL s).take p := by rw [bL_extract, List.drop_zero, Nat.sub_zero]
  have hz : (s.extract 0 p).size = p := by rw [← bL_len, hb, List.length_take, bL_len]; omega
  have hg := h (s.extract 0 p) (by rw [hb, List.take_take, Nat.min_self]) (by omega) 0 (by omega)
  rw [runesF] at hg
  have hv := goodF_valid (s.extract 0 p) _ 0 0 n (by omega) (by omega) hg
  rw [List.drop_zero] at hv
  unfold goodB
  rw [hg]
  simp only [goodF]
  rw [show validD (s.extract 0 p).data.toList = true from hv]
  simp [h1, h20]
theorem bnd_more (s : ByteArray) (n : Nat) (h : Bnd s s.size n) (h1 : 1 ≤ n) : goodB (s ++ (⟨#[55]⟩ : ByteArray)) = decide (n < 20) := by
  have hz : (s ++ (⟨#[55]⟩ : ByteArray)).size = s.size + 1 := ByteArray.size_append
  have hb : bL (s ++ (⟨#[55]⟩ : ByteArray)) = bL s ++ [55] := bL_append _ _
  have hg := h (s ++ (⟨#[55]⟩ : ByteArray)) (by rw [hb, ← bL_len, List.take_left, List.take_length]) (by omega) 1 (by omega)
  have hd : Utf8.decode (s ++ (⟨#[55]⟩ : ByteArray)) s.size = (55, 1) := by
    rw [Lib.decode_N]
    show decodeN _ ((bL (s ++ (⟨#[55]⟩ : ByteArray))).getD s.size 0).toNat _ _ _ = _
    have : (bL (s ++ (⟨#[55]⟩ : ByteArray))).getD s.size 0 = 55 := by
      rw [hb, ← bL_len]; simp [List.getD_eq_getElem?_getD]
    rw [this]
    unfold decodeN
    rw [if_pos (by decide)]
    rfl
  rw [runesF_step _ 0 _ (by omega), hd, goodF_step, if_pos (show accept 55 n = true by unfold accept; simp [isDig]; exact .inr (by omega)), runesF] at hg
  have hv := goodF_valid _ _ 0 0 (n + 1) (by omega) (by omega) hg
  rw [List.drop_zero] at hv
  unfold goodB
  rw [hg]
  simp only [goodF]
  rw [show validD (s ++ (⟨#[55]⟩ : ByteArray)).data.toList = true from hv]
  simp
  omega
theorem goodB_parts (s : ByteArray) (h : goodB s = true) : ∃ m, goodF (runes s) 0 = some m ∧ 1 ≤ m ∧ m ≤ 20 := by
  unfold goodB at h
  cases hg : goodF (runes s) 0 with
  | none => rw [hg] at h; cases h
  | some m =>
    rw [hg] at h
    simp only [Bool.and_eq_true, decide_eq_true_eq] at h
    exact ⟨m, rfl, h.1.1, h.1.2⟩
theorem awake_20 : tocsinlaw3_awake.f 20 = some true := by decide +kernel
set_option maxHeartbeats 4000000 in
set_option maxRecDepth 1000000 in
theorem runes_walk (s : ByteArray) (w : World) (hT : Tab w) :
    Calls Tryd.prog 4 #[.string s] w fun e w' => e = .returned (.bool true) ∧ Below w.heap.size w w' := by
  have HT := Aside0.mk hT
  have CA := Aside0.mk (tocsinlaw3_awake.calls 20 true w hT awake_20)
  clear hT
  by_cases c0 : s.size ≤ 200
  case neg =>
    have d0 : decide ((s.size : Int) > 200) = true := decide_eq_true (by omega)
    go_enter Tryd.func4, Tryd.ntmps4
    go_wp2_with (go_at_call 9; (with_reducible refine (CA.out).mono ?_); rintro e w7 ⟨rfl, hb⟩)
    go_ret
    exact ⟨rfl, hb⟩
  have d0 : decide ((s.size : Int) > 200) = false := decide_eq_false (by omega)
  have CG : Aside0 (∀ W', Below w.heap.size w W' → _) := ⟨fun W' hb' => good_c s W' (by omega) (tab_below HT.out hb')⟩
  by_cases g0 : goodB s = true
  case neg =>
    simp only [Bool.eq_false_iff.2 g0] at CG
    clear g0
    go_enter Tryd.func4, Tryd.ntmps4
    go_wp2_with (first
      | (go_at_call 9; (with_reducible refine (CA.out).mono ?_); rintro e w7 ⟨rfl, hb⟩)
      | (go_at_call 14; (with_reducible refine (CG.out _ hb).mono ?_); rintro e w8 ⟨rfl, hb8⟩))
    go_ret
    exact ⟨rfl, hb.trans (hb8.mono hb.size)⟩
  obtain ⟨M, hM, hM1, hM2⟩ := goodB_parts s g0
  have hlen := goodF_len _ _ _ hM
  rw [Nat.zero_add] at hlen
  simp only [g0] at CG
  clear g0
  have HM := Aside0.mk hM
  clear hM
  go_enter Tryd.func4, Tryd.ntmps4
  go_wp2_with (first
    | (go_at_call 9; (with_reducible refine (CA.out).mono ?_); rintro e w7 ⟨rfl, hb⟩)
    | (go_at_call 14; (with_reducible refine (CG.out _ hb).mono ?_); rintro e w8 ⟨rfl, hb8⟩))
  have hb9 := hb.trans (hb8.mono hb.size)
  clear hb hb8 CG CA
  go_loopg [3] s.size (fun gf v3 wr => ∃ (p n : Nat), v3 = .int .i64 n ∧ Aside0 (goodF (runesF s gf p) n = some M) ∧ Aside0 (Bnd s p n) ∧ wr.heap[w8.heap.size]? = some (.stringIter s p) ∧ Aside0 (Below w.heap.size w wr) ∧ s.size ≤ p + gf ∧ p ≤ s.size ∧ (0 < p → 1 ≤ n) ∧ n ≤ M)
  case atStart => exact ⟨0, 0, rfl, HM, ⟨bnd_start s⟩, World.iter_heap w8 s 0, ⟨hb9.alloc hb9.size _⟩, by omega, Nat.zero_le _, fun h => by omega, Nat.zero_le _⟩
  case round =>
    obtain ⟨p, n, rfl, HG, HN, hit, HB, hfu, hps, hpn, hnM⟩ := hrel
    have hsz0 := hb9.size
    clear hb9
    have hsz : w8.heap.size < wr.heap.size := (Array.getElem?_eq_some_iff.1 hit).1
    by_cases hp : p < s.size
    · obtain ⟨g', rfl⟩ : ∃ g', gk = g' + 1 := ⟨gk - 1, by omega⟩
      have hnx : ∀ ty, (Instr.next (.pointer (some ⟨w8.heap.size, 0, none⟩)) true ty).run Tryd.prog wr = _ := fun ty => Lib.run_next_any_at wr w8.heap.size s p ty hit hp
      have hwd := i32_pos s p hp
      have hfit := decode_fits s p hp
      have hG := HG.out
      rw [runesF_step s g' p hp, goodF_step] at hG
      have hac : accept (Utf8.decode s p).1 n = true := by
        by_cases ha : accept (Utf8.decode s p).1 n = true
        · exact ha
        · rw [if_neg ha] at hG; cases hG
      rw [if_pos hac] at hG
      have hM' := goodF_len _ _ _ hG
      have HN2 := Aside0.mk (bnd_step s p n HN.out hp hac)
      have HG2 := Aside0.mk hG
      obtain ⟨K, hK⟩ : ∃ K, (Utf8.decode s p).2 = K := ⟨_, rfl⟩
      rw [hK] at hnx HG2 HN2 hwd hfit
      have hit2 := Lib.iterAt_heap wr w8.heap.size s p (p + K) hit
      have hb2 := Lib.below_iterAt HB.out (k := w8.heap.size) hsz0 s (p + K)
      obtain ⟨W, hWd⟩ : ∃ W, wr.iterAt w8.heap.size s (p + K) = W := ⟨_, rfl⟩
      rw [hWd] at hnx hit2 hb2
      have hsz2 : w8.heap.size < W.heap.size := (Array.getElem?_eq_some_iff.1 hit2).1
      have CP := fun h1 : 1 ≤ n => Aside0.mk (good_c (s.extract 0 p) W (by rw [ByteArray.size_extract]; omega) (tab_below HT.out hb2))
      have CP2 := fun h1 : 1 ≤ n => bnd_prefix s p n HN.out hps h1 (by omega)
      clear HB HG HN hit hsz hG hac hK
      have HB := Aside0.mk hb2
      by_cases p0 : 0 < p
      · have p0b : decide ((p : Int) > 0) = true := decide_eq_true (by omega)
        have e0 : ((0 : Int) ≤ (p : Int)) = True := eq_true (by omega)
        have e1 : ((p : Int) ≤ (s.size : Int)) = True := eq_true (by omega)
        replace CP := CP (hpn p0)
        rw [CP2 (hpn p0)] at CP
        clear CP2
        go_wp2_with (go_at_call 14; (with_reducible refine (CP.out).mono ?_); rintro e wG ⟨rfl, hb⟩; have hit8 := (hb.block _ hsz2).trans hit2; have n0_ := Aside0.mk (HB.out.trans (hb.mono (Nat.le_trans hsz0 (Nat.le_of_lt hsz2)))); clear HB; have HB := n0_; clear n0_ hb)
        go_roundg g'
        case measure => omega
        case rel => exact ⟨p + K, n + 1, by go_num, HG2, HN2, hit8, HB, by omega, hfit, fun _ => by omega, by omega⟩
      · have p0b : decide ((p : Int) > 0) = false := decide_eq_false (by omega)
        clear CP CP2
        go_wp2
        go_roundg g'
        case measure => omega
        case rel => exact ⟨p + K, n + 1, by go_num, HG2, HN2, hit2, HB, by omega, hfit, fun _ => by omega, by omega⟩
    · have hnx : ∀ ty, (Instr.next (.pointer (some ⟨w8.heap.size, 0, none⟩)) true ty).run Tryd.prog wr = _ := fun ty => Lib.run_next_end_at wr w8.heap.size s p ty hit hp
      obtain rfl : p = s.size := by omega
      have hG := HG.out
      rw [runesF_end s gk _ hp, goodF] at hG
      obtain rfl := Option.some.inj hG
      have hm := bnd_more s n HN.out hM1
      have CL := Aside0.mk (len_c s wr (by omega))
      rw [← hlen] at CL
      have CM : Aside0 (∀ W', Below w.heap.size w W' → _) := ⟨fun W' hb' => good_c (s ++ (⟨#[55]⟩ : ByteArray)) W' (by rw [ByteArray.size_append]; show s.size + 1 ≤ _; omega) (tab_below HT.out hb')⟩
      rw [hm] at CM
      have hsz' := HB.out.size
      have el : ((n : Int) == (n : Int)) = true := beq_self_eq_true _
      clear HG HN hit hG hm HM hlen
      by_cases c20 : n < 20
      · have c20b : decide ((n : Int) < 20) = true := decide_eq_true (by omega)
        simp only [c20, decide_true] at CM
        go_wp2_with (first
          | (go_at_call 15; (with_reducible refine (CL.out).mono ?_); rintro e wL ⟨rfl, hb⟩; have n0_ := Aside0.mk (HB.out.trans (hb.mono hsz')); clear HB; have HB := n0_; clear n0_ hb)
          | (go_at_call 14; (with_reducible refine (CM.out _ HB.out).mono ?_); rintro e wG ⟨rfl, hb⟩; have n0_ := Aside0.mk (HB.out.trans (hb.mono HB.out.size)); clear HB; have HB := n0_; clear n0_ hb))
        go_ret
        exact ⟨rfl, HB.out⟩
      · have c20b : decide ((n : Int) < 20) = false := decide_eq_false (by omega)
        simp only [c20, decide_false] at CM
        go_wp2_with (first
          | (go_at_call 15; (with_reducible refine (CL.out).mono ?_); rintro e wL ⟨rfl, hb⟩; have n0_ := Aside0.mk (HB.out.trans (hb.mono hsz')); clear HB; have HB := n0_; clear n0_ hb)
          | (go_at_call 14; (with_reducible refine (CM.out _ HB.out).mono ?_); rintro e wG ⟨rfl, hb⟩; have n0_ := Aside0.mk (HB.out.trans (hb.mono HB.out.size)); clear HB; have HB := n0_; clear n0_ hb))
        go_ret
        exact ⟨rfl, HB.out⟩
theorem own : ownKnob Tryd.prog.godebug = none := by kernel_rfl
theorem Tryd.laidOut : laidOutB Tryd.prog = true := by kernel_rfl
open Go.ChangeShapes Go.WideShapes Go.ChangeAt Go.RowKit
open Go.ChangeMaps (open_string shut_string)
abbrev laidL : List (String × DataW Unit) := [("unicode/utf8.acceptRanges", Rows.laid_unicode_utf8_acceptRanges), ("unicode.properties", Rows.laid_unicode_properties), ("unicode.Letter", Rows.laid_unicode_Letter), ("unicode/utf8.first", Rows.laid_unicode_utf8_first)]
theorem xL : RExtra Tryd.prog Tryd.lays200_ren := ⟨by kernel_rfl, by kernel_rfl, by kernel_rfl, by kernel_rfl, by kernel_rfl, by kernel_rfl, by kernel_rfl, by kernel_rfl⟩
theorem xU : U8Extra Tryd.prog Tryd.lays196_ren := by constructor <;> kernel_rfl
set_option maxRecDepth 1000000 in
theorem tab_of_laid {W : World} (h : laidMetH Tryd.prog laidL W) : Tab W := by
  rw [MakeChecks.laidMetH_plain _ _ _ (by kernel_rfl)] at h
  have r1 : VarReads Tryd.prog W "unicode.properties" Rows.laid_unicode_properties := Lib.laidMet.reads h (.tail _ (.head _))
  have r2 : VarReads Tryd.prog W "unicode.Letter" (rtabData letterT) := Pinned.letter_eq ▸ Lib.laidMet.reads h (.tail _ (.tail _ (.head _)))
  have r3 : VarReads Tryd.prog W "unicode/utf8.first" firstData := Pinned.utf8First_eq ▸ Lib.laidMet.reads h (.tail _ (.tail _ (.tail _ (.head _))))
  have r4 : VarReads Tryd.prog W "unicode/utf8.acceptRanges" acceptData := (show Rows.laid_unicode_utf8_acceptRanges = (acceptData : DataW Unit) by kernel_rfl) ▸ Lib.laidMet.reads h (.head _)
  refine ⟨?_, rvar_of_reads { Tryd.lays200 with } xL (by kernel_rfl) (by kernel_rfl) r2, utf8Tabs_of_readsT (U8Types.of196 Tryd.lays196) xU r3 r4⟩
  obtain ⟨g, t, cs, fuel, p, hg, hty, hvar, hd⟩ := r1
  obtain rfl := Option.some.inj ((show Tryd.prog.globalNamed "unicode.properties" = some (Tryd.lays200_ren.g 7) by kernel_rfl).symm.trans hg)
  obtain rfl := Option.some.inj ((show (Tryd.prog.globals[Tryd.lays200_ren.g 7]?).map (·.type) = some 39 by kernel_rfl).symm.trans hty)
  unfold Lib.TabIs
  rw [hvar, ← Lib.cells_of_tab (n := 256) (e := 5) Tryd.underlying39 Tryd.underlying5 (by kernel_rfl) (by kernel_rfl) hd]
set_option maxRecDepth 100000 in
theorem lifted (os : Os) (started : os.Started) (H : Type) (enc : TypeId × Value → H) :
    ReturnsInHanded {} Tryd.checked os 4 .any (fun w args => (Rows.nameRunesSpec.pre enc Tryd.prog Tryd.f4 Rows.nameRunesRow.domain false w args ∧ laidMetH Tryd.prog laidL w) ∧ sizedMet enc Tryd.prog Tryd.f4 (OpenSpec.ofChange Rows.nameRunesSpec) false w args) (Rows.nameRunesSpec.post enc Tryd.prog Tryd.f4 false true false false) := by
  refine returnsInHanded_of_change_and (C := Tryd.checked) (X := fun w _ => laidMetH Tryd.prog laidL w) (fun _ _ _ hh h => h.of_heap hh) own started (by kernel_rfl) Tryd.func4
    (ChangeSpec.witness_shaped (enc := enc) (C := Tryd.checked) (os := os) (X := fun w _ => laidMetH Tryd.prog laidL w) false (World.laidAll Tryd.prog os laidL) #[.string ⟨#[]⟩] 8 (World.laidAll_os _ _ _)
      (World.shaped_of_ZipB (by kernel_rfl) (by kernel_rfl)) (by kernel_rfl) (by kernel_rfl) (by kernel_rfl) (by rw [MakeChecks.laidMetH_plain _ _ _ (by kernel_rfl)]; exact laidMet_laidAll _ (by kernel_rfl) (by kernel_rfl))) ?_
  intro W base args ds gs before hval0 hW hcnd hsz0 hL _
  have hTb := tab_of_laid hL
  have hsz : (DataW.weightsEach Tryd.prog (Tryd.f4.params.toList ++ Rows.nameRunesSpec.plain.varTypes Tryd.prog) (ds ++ gs)).all (· ≤ reachBytes) = true := hsz0
  have hval : ∀ (j : Nat) t v, Tryd.f4.params[j]? = some t → args[j]? = some v → Value.okWide Tryd.prog W .any base t v := hval0
  have hW' := hW
  obtain ⟨p, q, hA0, hV, rfl, hfz, hnd⟩ := hW
  have hA : DataW.TrodAll enc Tryd.prog W 0 (fun _ => true) true Tryd.f4.params.toList args.toList ds p := hA0
  rw [Tryd.params4] at hA hval hsz
  obtain ⟨v0, vs0, d0, ds0, p0, q0, hargs, rfl, rfl, h0, r0⟩ := trodAll_cons hA
  obtain ⟨rfl, rfl, rfl⟩ := trodAll_nil r0
  obtain rfl : args = #[v0] := by cases args; simp_all
  obtain ⟨rfl, rfl⟩ := trodVars_none hV
  have k0 := h0
  have lt0 : ∀ x ∈ p0, x.block < W.heap.size := by obtain ⟨m, hm⟩ := k0; exact DataW.trod_lt m _ _ _ hm
  obtain ⟨a0, rfl, rfl, rfl, y0⟩ := open_string Tryd.underlying9 (hval 0 9 v0 rfl rfl) h0
  have w0 : a0.size ≤ 140737488351232 := by
    have z := sized_string hsz (j := 0) (t := 9) rfl rfl
    rw [Array.length_toList] at z
    exact z
  clear hA0 hval0 hsz0 hsz
  refine (runes_walk a0 W hTb).mono fun e W' ⟨he, bel⟩ => ?_
  subst he
  exact ⟨_, rfl, _, _, _, _, _, [], hW', trodAll_mk1 (shut_bool Tryd.underlying4 _), (trodAll_cons_mk (Below.trod Tryd.laidOut (by kernel_rfl) (of_decide_eq_true (by kernel_rfl)) k0 bel lt0) trodAll_mk0), rfl, bel.frame _, fun h => by cases h⟩
theorem over : Rows.nameRunesRow.holds Tryd.pinned (OpenSpec.ofChange Rows.nameRunesSpec) :=
  OpenClaim.holds_of_wide 4 Tryd.f4 rfl rfl rfl rfl rfl rfl rfl ⟨rfl, rfl, rfl, rfl, rfl⟩ rfl rfl rfl rfl rfl (by kernel_rfl) Tryd.func4 (by kernel_rfl)
    (of_decide_eq_true (by kernel_rfl)) (by unfold Func.isWrapper; first | (rw [if_pos (by decide +kernel)]; kernel_rfl) | (rw [if_neg (by decide +kernel)]; exact ⟨rfl, rfl⟩))
    (fun os started H enc _ => lifted os started H enc)
end Go.Proofs.YtfoafigpimhppaaDoor.Pure
namespace Go.Proofs.YtfoafigpimhppaaDoor
open Go
/-- The tied card. -/
theorem nameRunesCard_holds : Rows.NameRunesCardSaid :=
  Claim7.holds_tied_plain_at .later [] [.data, .data, .pinned, .pinned] true (true, "88e5fe75c2740dce89efaccb859eab7ad25d7beb69985a56be2168ac3603b69b") false
    Pure.over (fun _ h => by cases h) (by kernel_rfl) (fun _ h => by cases h) nameRunes_row_tie rfl ⟨rfl, rfl⟩ (by kernel_rfl) rfl
    (fun f fn hf hfn => by
      obtain rfl : f = 4 := Option.some.inj ((show Tryd.prog.funcNamed "tocsin/tocsinlaw3.NameRunes" = some 4 by kernel_rfl).symm.trans hf) |>.symm
      obtain rfl : fn = Tryd.f4 := (Option.some.inj (Tryd.func4.symm.trans hfn)).symm
      exact ⟨by kernel_rfl, fun j t ht => by
        rw [Tryd.params4] at ht
        have hm : t ∈ ([9] : List TypeId) := by simpa using Array.mem_of_getElem? ht
        have hall : (([9] : List TypeId).all fun u => !Tryd.prog.wantsStandIn u) = true := by kernel_rfl
        exact (show Tryd.prog.wantsStandIn t = false by simpa using List.all_eq_true.1 hall t hm)⟩)
    (by kernel_rfl)
end Go.Proofs.YtfoafigpimhppaaDoor
#print axioms Go.Proofs.YtfoafigpimhppaaDoor.nameRunesCard_holds
namespace Go.Proofs.YtfoafigpimhppaaDoor.Pure

end Go.Proofs.YtfoafigpimhppaaDoor.Pure
