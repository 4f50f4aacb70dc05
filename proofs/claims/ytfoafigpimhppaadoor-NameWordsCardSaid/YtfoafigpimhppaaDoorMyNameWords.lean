/- tocsinlaw3.NameWords, over the listed tables. -/
import Derived.Test.YtfoafigpimhppaaDoorPNmx2
import Derived.Test.YtfoafigpimhppaaDoorFieldPlain
import Derived.PinnedBridge
import Derived.Lib.LaidU8T
import Derived.Lib.LaidRTab
import Derived.Test.YtfoafigpimhppaaDoorCards
import Derived.Test.YtfoafigpimhppaaDoorTie
import Derived.LaidMore
import Derived.Stop.Joined
import Derived.SevenTiedAt
import Derived.Lib.LaidTab
import Derived.Lay
import Derived.LaidOnce
import Derived.Test.YtfoafigpimhppaaDoorRows
import Derived.WalkKit
import Derived.ProofKit
import Derived.OpenShut
import Derived.ShutString
import Derived.ChangeOld
import Derived.Below
import Derived.SizedLaws
import Derived.Carry
import Derived.Lib.SmallJoins
import Derived.Test.YtfoafigpimhppaaDoorWSized
namespace Go.Proofs.YtfoafigpimhppaaDoor.Pure
open Go.RowKit Go.Proofs.YtfoafigpimhppaaDoor.PNm Go.Proofs.YtfoafigpimhppaaDoorW.PrintWords Go.Proofs.YtfoafigpimhppaaDoorW.PrintLast Go.Proofs.YtfoafigpimhppaaDoorW.PrintMore Go.Shelf Go.Lib
set_option linter.unusedVariables false
set_option linter.unusedSimpArgs false


theorem wordsL_ne : ∀ l cur, (∀ b ∈ cur, blankB b = false) → ∀ w ∈ wordsL l cur, w ≠ [] ∧ ∀ b ∈ w, blankB b = false
  | [], cur, hc, w, h => by
    rw [wordsL] at h
    split at h
    · cases h
    · rename_i hn; obtain rfl := List.mem_singleton.1 h; exact ⟨hn, hc⟩
  | b :: t, cur, hc, w, h => by
    rw [wordsL] at h
    cases hb : blankB b with
    | true =>
      simp only [hb, if_true] at h
      split at h
      · exact wordsL_ne t [] (fun _ h => by cases h) w h
      · rename_i hn
        rcases List.mem_cons.1 h with rfl | h
        · exact ⟨hn, hc⟩
        · exact wordsL_ne t [] (fun _ h => by cases h) w h
    | false =>
      simp only [hb, Bool.false_eq_true, if_false] at h
      refine wordsL_ne t (cur ++ [b]) (fun x hx => ?_) w h
      rcases List.mem_append.1 hx with hx | hx
      · exact hc x hx
      · obtain rfl := List.mem_singleton.1 hx; exact hb
theorem wordsL_flat : ∀ l cur, ((wordsL l cur).flatten).length ≤ cur.length + l.length
  | [], cur => by
    rw [wordsL]
    split
    · simp
    · simp
  | b :: t, cur => by
    rw [wordsL]
    split
    · split
      · have := wordsL_flat t []; simp only [List.length_nil, List.length_cons] at *; omega
      · have := wordsL_flat t []; rw [List.flatten_cons, List.length_append]; simp only [List.length_nil, List.length_cons] at *; omega
    · have := wordsL_flat t (cur ++ [b]); simp only [List.length_append, List.length_cons, List.length_nil] at *; omega
def joined (ws : List (List UInt8)) : List UInt8 := ws.flatMap fun w => 32 :: 32 :: w
theorem joined_cons (w : List UInt8) (t : List (List UInt8)) : joined (w :: t) = 32 :: 32 :: (w ++ joined t) := by simp [joined]
theorem joined_len : ∀ ws : List (List UInt8), (joined ws).length = ws.flatten.length + 2 * ws.length
  | [] => rfl
  | w :: t => by rw [joined_cons, List.flatten_cons]; simp only [List.length_cons, List.length_append, joined_len t]; omega
theorem words_joined : ∀ (t : List (List UInt8)) (w : List UInt8), w ≠ [] → (∀ v ∈ t, v ≠ [] ∧ ∀ b ∈ v, blankB b = false) → wordsL (joined t) w = w :: t
  | [], w, hw, _ => by
    show wordsL [] w = _
    rw [wordsL, if_neg hw]
  | v :: t, w, hw, h => by
    have hv := h v (List.mem_cons_self ..)
    rw [joined_cons, wordsL, if_pos (by decide), if_neg hw, wordsL, if_pos (by decide), if_pos rfl, wordsL_skip _ _ _ hv.2, List.nil_append, words_joined t v hv.1 (fun x hx => h x (List.mem_cons_of_mem _ hx))]
theorem words_again (ws : List (List UInt8)) (h : ∀ v ∈ ws, v ≠ [] ∧ ∀ b ∈ v, blankB b = false) : wordsL (joined ws) [] = ws := by
  cases ws with
  | nil => rfl
  | cons v t =>
    have hv := h v (List.mem_cons_self ..)
    rw [joined_cons, wordsL, if_pos (by decide), if_pos rfl, wordsL, if_pos (by decide), if_pos rfl, wordsL_skip _ _ _ hv.2, List.nil_append, words_joined t v hv.1 (fun x hx => h x (List.mem_cons_of_mem _ hx))]
theorem join_l0 (x0 x1 x2 : ByteArray) (ws : List (List UInt8)) (hwl : ws.length ≤ 1000) : ∀ d i n (x8 : ByteArray), i + d = ws.length → x8.size + (joined (ws.drop i)).length ≤ 10000 →
    tocsinlaw3_NameWords.l0 (n + d + 1) x0 x1 x2 (ws.map Bs) x8 i = (name_Words.f (x8 ++ Bs (joined (ws.drop i)))).bind fun t125 => ((tocsinlaw3_texts.f n t125 (ws.map Bs)).bind fun t128 => (if t128 = true then (tocsinlaw3_NameWords.l1 n x0 x1 x2 0) else (some false))) := by
  intro d
  induction d with
  | zero =>
    intro i n x8 h0 h1
    rw [tocsinlaw3_NameWords.l0, if_neg (by simp; omega), List.drop_eq_nil_of_le (by omega)]
    rw [show x8 ++ Bs (joined []) = x8 from bL_inj (by rw [bL_append, bL_Bs]; simp [joined])]
  | succ d ih =>
    intro i n x8 h0 h1
    have hd := drop_atw ws i (by omega)
    rw [hd, joined_cons] at h1
    simp only [List.length_cons, List.length_append] at h1
    have hs2 : (x8 ++ (⟨#[32, 32]⟩ : ByteArray)).size = x8.size + 2 := by rw [ByteArray.size_append]; rfl
    rw [show n + (d + 1) + 1 = (n + d + 1) + 1 by omega, tocsinlaw3_NameWords.l0, if_pos (by simp; omega), if_pos (by omega), if_pos (by omega), rd_map, if_pos (by rw [hs2, size_Bs]; omega), w64_nat i (by omega)]
    rw [ih (i + 1) n _ (by omega) (by rw [ByteArray.size_append, hs2, size_Bs]; omega), hd, joined_cons]
    congr 2
    exact bL_inj (by simp only [bL_append, bL_Bs, List.append_assoc]; rfl)
theorem field_again (x0 x1 x2 : ByteArray) (h0 : x0.size ≤ 200) (h1 : x1.size ≤ 50) (h2 : x2.size ≤ 50) (hn : ∀ b ∈ bL x1 ++ bL x2, blankB b = false) (K : Nat) (hK : 402 ≤ K) :
    name_Field.f K ((((x1 ++ (⟨#[61]⟩ : ByteArray)) ++ x2) ++ (⟨#[32]⟩ : ByteArray)) ++ x0) x1 = some (x2, true) := by
  have hz1 : (⟨#[61]⟩ : ByteArray).size = 1 := rfl
  have hz2 : (⟨#[32]⟩ : ByteArray).size = 1 := rfl
  rw [field_f _ _ (by simp only [ByteArray.size_append, hz1, hz2]; omega) h1 K hK]
  have e : bL ((((x1 ++ (⟨#[61]⟩ : ByteArray)) ++ x2) ++ (⟨#[32]⟩ : ByteArray)) ++ x0) = ((bL x1 ++ [61]) ++ bL x2) ++ (32 :: bL x0) := by
    simp only [bL_append, List.append_assoc]; rfl
  have hnb : ∀ b ∈ (bL x1 ++ [61]) ++ bL x2, blankB b = false := by
    intro b hb
    simp only [List.mem_append, List.mem_singleton] at hb
    rcases hb with (hb | rfl) | hb
    · exact hn b (List.mem_append_left _ hb)
    · decide
    · exact hn b (List.mem_append_right _ hb)
  rw [e, wordsL_skip _ _ _ hnb, List.nil_append, wordsL, if_pos (by decide), if_neg (by simp), fieldS]
  have hp : Lib.hasPrefix ((bL x1 ++ [61]) ++ bL x2) (bL x1 ++ [61]) = true := by
    unfold Lib.hasPrefix
    rw [List.isPrefixOf_iff_prefix]
    exact List.prefix_append _ _
  rw [if_pos hp, List.drop_left]
  unfold fieldB
  rw [Bs_bL]
theorem blank_l1 (x0 x1 x2 : ByteArray) (h0 : x0.size ≤ 200) (h1 : x1.size ≤ 50) (h2 : x2.size ≤ 50) : ∀ d p n, p + d = (x1 ++ x2).size → 402 ≤ n → (∀ b ∈ (bL (x1 ++ x2)).take p, blankB b = false) →
    tocsinlaw3_NameWords.l1 (n + d + 1) x0 x1 x2 p = some true := by
  intro d
  have hsz : (x1 ++ x2).size = x1.size + x2.size := ByteArray.size_append
  induction d with
  | zero =>
    intro p n hpd hn hb
    have hz1 : (⟨#[61]⟩ : ByteArray).size = 1 := rfl
    have hz2 : (⟨#[32]⟩ : ByteArray).size = 1 := rfl
    rw [List.take_of_length_le (by rw [bL_len]; omega), bL_append] at hb
    rw [tocsinlaw3_NameWords.l1, if_pos (by omega), if_neg (by omega), if_pos (by omega), if_pos (by simp only [ByteArray.size_append, hz1]; omega), if_pos (by simp only [ByteArray.size_append, hz1]; omega), if_pos (by simp only [ByteArray.size_append, hz1, hz2]; omega), field_again x0 x1 x2 h0 h1 h2 hb n (by omega)]
    simp only [Option.bind_some, if_true]
  | succ d ih =>
    intro p n hpd hn hb
    have hx := bt_L (x1 ++ x2) p (by omega)
    have hlp : p < (bL (x1 ++ x2)).length := by rw [bL_len]; omega
    rw [show n + (d + 1) + 1 = (n + d + 1) + 1 by omega, tocsinlaw3_NameWords.l1, if_pos (by omega), if_pos (by omega), if_pos (by omega), hx]
    by_cases c1 : ((bL (x1 ++ x2)).getD p 0).toNat = 32
    · rw [if_pos (by omega)]
    by_cases c2 : ((bL (x1 ++ x2)).getD p 0).toNat = 9
    · rw [if_neg (by omega), if_pos (by omega)]
    rw [if_neg (by omega), if_neg (by omega), w64_nat p (by omega)]
    refine ih (p + 1) n (by omega) hn ?_
    intro b hbm
    rw [List.take_add_one, List.mem_append] at hbm
    rcases hbm with hbm | hbm
    · exact hb b hbm
    · rw [List.getElem?_eq_getElem hlp] at hbm
      simp only [Option.toList_some, List.mem_singleton] at hbm
      subst hbm
      refine Bool.eq_false_iff.2 fun h => ?_
      have := (u8_blank _).1 h
      rw [List.getD_eq_getElem?_getD, List.getElem?_eq_getElem hlp] at c1 c2
      exact this.elim c1 c2
theorem awake_20 : tocsinlaw3_awake.f 20 = some true := by decide +kernel
theorem words_pure (a0 a1 a2 : ByteArray) : tocsinlaw3_NameWords.f 2000 a0 a1 a2 = some true := by
  unfold tocsinlaw3_NameWords.f
  rw [lift tocsinlaw3_awake.mono awake_20 2000 (by decide)]
  simp only [Option.bind_some, if_true]
  rw [show (2000 : Nat) = 1999 + 1 from rfl]
  by_cases c0 : (a0.size : Int) > 200
  · rw [if_pos c0, tocsinlaw3_NameWords.j0, if_pos rfl]
  by_cases c1 : (a1.size : Int) > 50
  · rw [if_neg c0, if_pos c1, tocsinlaw3_NameWords.j0, if_pos rfl]
  by_cases c2 : (a2.size : Int) > 50
  · rw [if_neg c0, if_neg c1, decide_eq_true c2, tocsinlaw3_NameWords.j0, if_pos rfl]
  rw [if_neg c0, if_neg c1, decide_eq_false c2, tocsinlaw3_NameWords.j0, if_neg (by decide)]
  unfold name_Words.f
  rw [if_pos (by unfold lim; omega), wordsB_eq]
  simp only [Option.bind_some]
  have hc := wordsL_count (bL a0) []
  rw [bL_len] at hc
  have hf := wordsL_flat (bL a0) []
  rw [bL_len, List.length_nil, Nat.zero_add] at hf
  have hg := wordsL_ne (bL a0) [] (fun _ h => by cases h)
  have ht := texts_f ((wordsL (bL a0) []).map Bs) (by rw [List.length_map]; omega)
  generalize wordsL (bL a0) [] = ws at hc hf hg ht
  have hj := joined_len ws
  obtain ⟨n, hn⟩ : ∃ n, 1999 = n + ws.length + 1 := ⟨1999 - ws.length - 1, by omega⟩
  have h0 := join_l0 a0 a1 a2 ws (by omega) ws.length 0 n (⟨#[]⟩ : ByteArray) (by omega) (by rw [List.drop_zero, hj]; show 0 + _ ≤ _; omega)
  rw [show ((0 : Nat) : Int) = 0 from rfl] at h0
  rw [hn, h0]
  unfold name_Words.f
  have hx : bL ((⟨#[]⟩ : ByteArray) ++ Bs (joined (ws.drop 0))) = joined ws := by rw [bL_append, bL_Bs]; rfl
  rw [if_pos (by rw [← bL_len, hx]; unfold lim; omega), wordsB_eq, hx, words_again ws hg]
  simp only [Option.bind_some]
  rw [ht n (by omega)]
  simp only [Option.bind_some, if_true]
  have hsz : (a1 ++ a2).size = a1.size + a2.size := ByteArray.size_append
  obtain ⟨m, hm⟩ : ∃ m, n = m + (a1 ++ a2).size + 1 := ⟨n - (a1 ++ a2).size - 1, by omega⟩
  rw [hm]
  exact blank_l1 a0 a1 a2 (by omega) (by omega) (by omega) (a1 ++ a2).size 0 m (by omega) (by omega) (by simp)
theorem own : ownKnob Tryd.prog.godebug = none := by kernel_rfl
theorem Tryd.laidOut : laidOutB Tryd.prog = true := by kernel_rfl
open Go.ChangeShapes Go.WideShapes Go.ChangeAt Go.RowKit
open Go.ChangeMaps (open_string shut_string)
abbrev laidL : List (String × DataW Unit) := [("unicode/utf8.acceptRanges", Rows.laid_unicode_utf8_acceptRanges), ("unicode.properties", Rows.laid_unicode_properties), ("unicode.Letter", Rows.laid_unicode_Letter), ("unicode/utf8.first", Rows.laid_unicode_utf8_first)]
theorem xL : RExtra Tryd.prog Tryd.lays200_ren := ⟨by kernel_rfl, by kernel_rfl, by kernel_rfl, by kernel_rfl, by kernel_rfl, by kernel_rfl, by kernel_rfl, by kernel_rfl⟩
theorem xU : U8Extra Tryd.prog Tryd.lays196_ren := by constructor <;> kernel_rfl
set_option maxRecDepth 1000000 in
theorem tab_of_laid {W : World} (h : laidMetH Tryd.prog laidL W) : Tab W := by
  rw [MakeChecks.laidMetH_plain _ _ _ (by kernel_rfl)] at h
  have r1 : VarReads Tryd.prog W "unicode.properties" Rows.laid_unicode_properties := Lib.laidMet.reads h (.tail _ (.head _))
  have r2 : VarReads Tryd.prog W "unicode.Letter" (rtabData letterT) := Pinned.letter_eq ▸ Lib.laidMet.reads h (.tail _ (.tail _ (.head _)))
  have r3 : VarReads Tryd.prog W "unicode/utf8.first" firstData := Pinned.utf8First_eq ▸ Lib.laidMet.reads h (.tail _ (.tail _ (.tail _ (.head _))))
  have r4 : VarReads Tryd.prog W "unicode/utf8.acceptRanges" acceptData := (show Rows.laid_unicode_utf8_acceptRanges = (acceptData : DataW Unit) by kernel_rfl) ▸ Lib.laidMet.reads h (.head _)
  refine ⟨?_, rvar_of_reads { Tryd.lays200 with } xL (by kernel_rfl) (by kernel_rfl) r2, utf8Tabs_of_readsT (U8Types.of196 Tryd.lays196) xU r3 r4⟩
  obtain ⟨g, t, cs, fuel, p, hg, hty, hvar, hd⟩ := r1
  obtain rfl := Option.some.inj ((show Tryd.prog.globalNamed "unicode.properties" = some (Tryd.lays200_ren.g 7) by kernel_rfl).symm.trans hg)
  obtain rfl := Option.some.inj ((show (Tryd.prog.globals[Tryd.lays200_ren.g 7]?).map (·.type) = some 39 by kernel_rfl).symm.trans hty)
  unfold Lib.TabIs
  rw [hvar, ← Lib.cells_of_tab (n := 256) (e := 5) Tryd.underlying39 Tryd.underlying5 (by kernel_rfl) (by kernel_rfl) hd]
set_option maxRecDepth 100000 in
theorem lifted (os : Os) (started : os.Started) (H : Type) (enc : TypeId × Value → H) :
    ReturnsInHanded {} Tryd.checked os 3 .any (fun w args => (Rows.nameWordsSpec.pre enc Tryd.prog Tryd.f3 Rows.nameWordsRow.domain false w args ∧ laidMetH Tryd.prog laidL w) ∧ sizedMet enc Tryd.prog Tryd.f3 (OpenSpec.ofChange Rows.nameWordsSpec) false w args) (Rows.nameWordsSpec.post enc Tryd.prog Tryd.f3 false true false false) := by
  refine returnsInHanded_of_change_and (C := Tryd.checked) (X := fun w _ => laidMetH Tryd.prog laidL w) (fun _ _ _ hh h => h.of_heap hh) own started (by kernel_rfl) Tryd.func3
    (ChangeSpec.witness_shaped (enc := enc) (C := Tryd.checked) (os := os) (X := fun w _ => laidMetH Tryd.prog laidL w) false (World.laidAll Tryd.prog os laidL) #[.string ⟨#[]⟩, .string ⟨#[]⟩, .string ⟨#[]⟩] 8 (World.laidAll_os _ _ _)
      (World.shaped_of_ZipB (by kernel_rfl) (by kernel_rfl)) (by kernel_rfl) (by kernel_rfl) (by kernel_rfl) (by rw [MakeChecks.laidMetH_plain _ _ _ (by kernel_rfl)]; exact laidMet_laidAll _ (by kernel_rfl) (by kernel_rfl))) ?_
  intro W base args ds gs before hval0 hW hcnd hsz0 hL _
  have hTb := tab_of_laid hL
  have hsz : (DataW.weightsEach Tryd.prog (Tryd.f3.params.toList ++ Rows.nameWordsSpec.plain.varTypes Tryd.prog) (ds ++ gs)).all (· ≤ reachBytes) = true := hsz0
  have hval : ∀ (j : Nat) t v, Tryd.f3.params[j]? = some t → args[j]? = some v → Value.okWide Tryd.prog W .any base t v := hval0
  have hW' := hW
  obtain ⟨p, q, hA0, hV, rfl, hfz, hnd⟩ := hW
  have hA : DataW.TrodAll enc Tryd.prog W 0 (fun _ => true) true Tryd.f3.params.toList args.toList ds p := hA0
  rw [Tryd.params3] at hA hval hsz
  obtain ⟨v0, vs0, d0, ds0, p0, q0, hargs, rfl, rfl, h0, r0⟩ := trodAll_cons hA
  obtain ⟨v1, vs1, d1, ds1, p1, q1, rfl, rfl, rfl, h1, r1⟩ := trodAll_cons r0
  obtain ⟨v2, vs2, d2, ds2, p2, q2, rfl, rfl, rfl, h2, r2⟩ := trodAll_cons r1
  obtain ⟨rfl, rfl, rfl⟩ := trodAll_nil r2
  obtain rfl : args = #[v0, v1, v2] := by cases args; simp_all
  obtain ⟨rfl, rfl⟩ := trodVars_none hV
  have k0 := h0
  have k1 := h1
  have k2 := h2
  have lt0 : ∀ x ∈ p0, x.block < W.heap.size := by obtain ⟨m, hm⟩ := k0; exact DataW.trod_lt m _ _ _ hm
  have lt1 : ∀ x ∈ p1, x.block < W.heap.size := by obtain ⟨m, hm⟩ := k1; exact DataW.trod_lt m _ _ _ hm
  have lt2 : ∀ x ∈ p2, x.block < W.heap.size := by obtain ⟨m, hm⟩ := k2; exact DataW.trod_lt m _ _ _ hm
  obtain ⟨a0, rfl, rfl, rfl, y0⟩ := open_string Tryd.underlying9 (hval 0 9 v0 rfl rfl) h0
  have w0 : a0.size ≤ 140737488351232 := by
    have z := sized_string hsz (j := 0) (t := 9) rfl rfl
    rw [Array.length_toList] at z
    exact z
  obtain ⟨a1, rfl, rfl, rfl, y1⟩ := open_string Tryd.underlying9 (hval 1 9 v1 rfl rfl) h1
  have w1 : a1.size ≤ 140737488351232 := by
    have z := sized_string hsz (j := 1) (t := 9) rfl rfl
    rw [Array.length_toList] at z
    exact z
  obtain ⟨a2, rfl, rfl, rfl, y2⟩ := open_string Tryd.underlying9 (hval 2 9 v2 rfl rfl) h2
  have w2 : a2.size ≤ 140737488351232 := by
    have z := sized_string hsz (j := 2) (t := 9) rfl rfl
    rw [Array.length_toList] at z
    exact z
  clear hA0 hval0 hsz0 hsz
  refine (tocsinlaw3_NameWords.calls 2000 a0 a1 a2 true W hTb (words_pure a0 a1 a2) rfl).mono fun e W' ⟨he, bel⟩ => ?_
  subst he
  exact ⟨_, rfl, _, _, _, _, _, [], hW', trodAll_mk1 (shut_bool Tryd.underlying4 _), (trodAll_cons_mk (Below.trod Tryd.laidOut (by kernel_rfl) (of_decide_eq_true (by kernel_rfl)) k0 bel lt0) (trodAll_cons_mk (Below.trod Tryd.laidOut (by kernel_rfl) (of_decide_eq_true (by kernel_rfl)) k1 bel lt1) (trodAll_cons_mk (Below.trod Tryd.laidOut (by kernel_rfl) (of_decide_eq_true (by kernel_rfl)) k2 bel lt2) trodAll_mk0))), rfl, bel.frame _, fun h => by cases h⟩
theorem over : Rows.nameWordsRow.holds Tryd.pinned (OpenSpec.ofChange Rows.nameWordsSpec) :=
  OpenClaim.holds_of_wide 3 Tryd.f3 rfl rfl rfl rfl rfl rfl rfl ⟨rfl, rfl, rfl, rfl, rfl⟩ rfl rfl rfl rfl rfl (by kernel_rfl) Tryd.func3 (by kernel_rfl)
    (of_decide_eq_true (by kernel_rfl)) (by unfold Func.isWrapper; first | (rw [if_pos (by decide +kernel)]; kernel_rfl) | (rw [if_neg (by decide +kernel)]; exact ⟨rfl, rfl⟩))
    (fun os started H enc _ => lifted os started H enc)
end Go.Proofs.YtfoafigpimhppaaDoor.Pure
namespace Go.Proofs.YtfoafigpimhppaaDoor
open Go
/-- The tied card. -/
theorem nameWordsCard_holds : Rows.NameWordsCardSaid :=
  Claim7.holds_tied_plain_at .later [] [.data, .data, .pinned, .pinned] true (true, "88e5fe75c2740dce89efaccb859eab7ad25d7beb69985a56be2168ac3603b69b") false
    Pure.over (fun _ h => by cases h) (by kernel_rfl) (fun _ h => by cases h) nameWords_row_tie rfl ⟨rfl, rfl⟩ (by kernel_rfl) rfl
    (fun f fn hf hfn => by
      obtain rfl : f = 3 := Option.some.inj ((show Tryd.prog.funcNamed "tocsin/tocsinlaw3.NameWords" = some 3 by kernel_rfl).symm.trans hf) |>.symm
      obtain rfl : fn = Tryd.f3 := (Option.some.inj (Tryd.func3.symm.trans hfn)).symm
      exact ⟨by kernel_rfl, fun j t ht => by
        rw [Tryd.params3] at ht
        have hm : t ∈ ([9, 9, 9] : List TypeId) := by simpa using Array.mem_of_getElem? ht
        have hall : (([9, 9, 9] : List TypeId).all fun u => !Tryd.prog.wantsStandIn u) = true := by kernel_rfl
        exact (show Tryd.prog.wantsStandIn t = false by simpa using List.all_eq_true.1 hall t hm)⟩)
    (by kernel_rfl)
end Go.Proofs.YtfoafigpimhppaaDoor
#print axioms Go.Proofs.YtfoafigpimhppaaDoor.nameWordsCard_holds
namespace Go.Proofs.YtfoafigpimhppaaDoor.Pure

end Go.Proofs.YtfoafigpimhppaaDoor.Pure
