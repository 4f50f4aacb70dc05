/- tocsinlaw3.NameParts, over the listed tables. -/
import Derived.Test.YtfoafigpimhppaaDoorPNmx2
import Derived.Test.YtfoafigpimhppaaDoorNamePlain
import Derived.PinnedBridge
import Derived.Lib.LaidU8T
import Derived.Lib.LaidRTab
import Derived.Test.YtfoafigpimhppaaDoorCards
import Derived.Test.YtfoafigpimhppaaDoorTie
import Derived.LaidMore
import Derived.Stop.Joined
import Derived.SevenTiedAt
import Derived.Lib.LaidTab
import Derived.Lay
import Derived.LaidOnce
import Derived.Test.YtfoafigpimhppaaDoorRows
import Derived.WalkKit
import Derived.ProofKit
import Derived.OpenShut
import Derived.ShutString
import Derived.ChangeOld
import Derived.Below
import Derived.SizedLaws
import Derived.Carry
import Derived.Lib.SmallJoins
import Derived.Test.YtfoafigpimhppaaDoorWSized
namespace Go.Proofs.YtfoafigpimhppaaDoor.Pure
open Go.RowKit Go.Proofs.YtfoafigpimhppaaDoor.PNm Go.Proofs.YtfoafigpimhppaaDoorW.PrintWords Go.Proofs.YtfoafigpimhppaaDoorW.PrintLast Go.Proofs.YtfoafigpimhppaaDoorW.PrintMore Go.Shelf Go.Lib
set_option linter.unusedVariables false
set_option linter.unusedSimpArgs false


theorem wordsL_parts : ∀ l cur, (wordsL l cur).flatten = cur ++ l.filter (fun b => !blankB b)
  | [], cur => by
    rw [wordsL]
    split
    · rename_i h; simp [h]
    · simp
  | b :: t, cur => by
    rw [wordsL]
    cases hb : blankB b with
    | true =>
      simp only [if_true]
      split
      · rename_i h; rw [wordsL_parts t []]; simp [h, hb]
      · rw [List.flatten_cons, wordsL_parts t []]; simp [hb]
    | false =>
      simp only [Bool.false_eq_true, if_false]
      rw [wordsL_parts t (cur ++ [b])]; simp [hb]
theorem wordsL_ne : ∀ l cur, ∀ w ∈ wordsL l cur, w ≠ []
  | [], cur, w, h => by
    rw [wordsL] at h
    split at h
    · cases h
    · rename_i hc; obtain rfl := List.mem_singleton.1 h; exact hc
  | b :: t, cur, w, h => by
    rw [wordsL] at h
    cases hb : blankB b with
    | true =>
      simp only [hb, if_true] at h
      split at h
      · exact wordsL_ne t [] w h
      · rename_i hc
        rcases List.mem_cons.1 h with rfl | h
        · exact hc
        · exact wordsL_ne t [] w h
    | false =>
      simp only [hb, Bool.false_eq_true, if_false] at h
      exact wordsL_ne t (cur ++ [b]) w h
theorem bt_L (s : ByteArray) (p : Nat) (h : p < s.size) : bt s (p : Int) = (((bL s).getD p 0).toNat : Int) := by
  unfold bt
  rw [dif_pos (by simpa using h)]
  rw [List.getD_eq_getElem?_getD, List.getElem?_eq_getElem (by rw [bL_len]; exact h)]
  rfl
theorem parts_l1 (x0 x4 : ByteArray) (hs : x0.size ≤ 300) : ∀ n p (x5 : ByteArray), p ≤ x0.size → x5.size ≤ p → x0.size - p < n →
    tocsinlaw3_NameParts.l1 n x0 x4 x5 p = some (bL x4 == bL x5 ++ ((bL x0).drop p).filter (fun b => !blankB b)) := by
  intro n
  induction n with
  | zero => intro p x5 h0 h1 h2; omega
  | succ n ih =>
    intro p x5 h0 h1 h2
    rw [tocsinlaw3_NameParts.l1]
    by_cases hp : p < x0.size
    · have hl : p < (bL x0).length := by rw [bL_len]; exact hp
      have hb := bt_L x0 p hp
      have hd := drop_at (bL x0) p hl
      have hw : wrap64 ((p : Int) + 1) = ((p + 1 : Nat) : Int) := by rw [w64_of _ (by omega) (by omega)]; omega
      rw [if_pos (by omega), if_pos (by omega), hb, hw]
      generalize hx : (bL x0).getD p 0 = b at hd
      have hu := u8_blank b
      by_cases c1 : b.toNat = 32
      · rw [if_pos (by omega), ih (p + 1) x5 (by omega) (by omega) (by omega), hd]
        simp [List.filter_cons, hu.2 (.inl c1)]
      rw [if_neg (by omega)]
      by_cases c2 : b.toNat = 9
      · rw [if_pos (by omega), ih (p + 1) x5 (by omega) (by omega) (by omega), hd]
        simp [List.filter_cons, hu.2 (.inr c2)]
      have hnb : blankB b = false := Bool.eq_false_iff.2 fun h => (hu.1 h).elim c1 c2
      have hex : x0.extract ((p : Int)).toNat (((p + 1 : Nat) : Int)).toNat = Bs [b] := by
        rw [extract_Bs]
        simp only [Int.toNat_natCast, Nat.add_sub_cancel_left, hd]
        simp
      rw [if_neg (by omega), if_pos (by omega), if_pos (by omega), hex, if_pos (by simp only [Bs]; show x5.size + 1 ≤ _; omega)]
      rw [ih (p + 1) (x5 ++ Bs [b]) (by omega) (by rw [ByteArray.size_append]; show x5.size + 1 ≤ _; omega) (by omega), hd, bL_append, bL_Bs]
      simp [List.filter_cons, hnb]
    · rw [if_neg (by omega), toL, toL]
      have : (bL x0).drop p = [] := List.drop_eq_nil_of_le (by rw [bL_len]; omega)
      rw [this]
      simp
theorem rd_map (ws : List (List UInt8)) (i : Nat) : rdOf ByteArray.empty (ws.map Bs) (i : Int) = Bs (ws.getD i []) := by
  unfold rdOf
  simp only [Int.toNat_natCast, List.getD_eq_getElem?_getD, List.getElem?_map]
  cases ws[i]? <;> rfl
theorem size_Bs (l : List UInt8) : (Bs l).size = l.length := by rw [← bL_len, bL_Bs]
theorem drop_atw (l : List (List UInt8)) (p : Nat) (h : p < l.length) : l.drop p = l.getD p [] :: l.drop (p + 1) := by
  rw [List.drop_eq_getElem_cons h, List.getD_eq_getElem?_getD, List.getElem?_eq_getElem h]
  rfl
theorem parts_l0 (x0 : ByteArray) (ws : List (List UInt8)) (hne : ∀ w ∈ ws, w ≠ []) (hwl : ws.length ≤ 1000) : ∀ d i n (x4 : ByteArray), i + d = ws.length → x4.size + ((ws.drop i).flatten).length ≤ 300 →
    tocsinlaw3_NameParts.l0 (n + d + 1) x0 (ws.map Bs) x4 (⟨#[]⟩ : ByteArray) i = tocsinlaw3_NameParts.l1 n x0 (x4 ++ Bs (ws.drop i).flatten) (⟨#[]⟩ : ByteArray) 0 := by
  intro d
  induction d with
  | zero =>
    intro i n x4 h0 h1
    rw [tocsinlaw3_NameParts.l0, if_neg (by simp; omega)]
    have : ws.drop i = [] := List.drop_eq_nil_of_le (by omega)
    rw [this]
    congr 1
    exact bL_inj (by rw [bL_append, bL_Bs]; simp)
  | succ d ih =>
    intro i n x4 h0 h1
    have hi : i < ws.length := by omega
    have hd := drop_atw ws i hi
    rw [hd, List.flatten_cons, List.length_append] at h1
    have hw : wrap64 ((i : Int) + 1) = ((i + 1 : Nat) : Int) := by rw [w64_of _ (by omega) (by omega)]; omega
    have hm : ws.getD i [] ∈ ws := by
      rw [List.getD_eq_getElem?_getD, List.getElem?_eq_getElem hi]
      exact List.getElem_mem hi
    rw [show n + (d + 1) + 1 = (n + d + 1) + 1 by omega, tocsinlaw3_NameParts.l0, if_pos (by simp; omega), if_pos (by omega), rd_map, toL, bL_Bs, if_neg (hne _ hm), if_pos (by rw [size_Bs]; omega), hw]
    rw [ih (i + 1) n _ (by omega) (by rw [ByteArray.size_append, size_Bs]; omega), hd, List.flatten_cons]
    congr 1
    exact bL_inj (by simp only [bL_append, bL_Bs, List.append_assoc])
theorem mono_up {g : Nat → Option Bool} (h : ∀ k, LeO (g k) (g (k + 1))) {a : Nat} {r : Bool} (ha : g a = some r) (d : Nat) : g (a + d) = some r := by
  induction d with
  | zero => exact ha
  | succ d ih => exact h _ r ih
theorem awake_20 : tocsinlaw3_awake.f 20 = some true := by decide +kernel
theorem awake_up (d : Nat) : tocsinlaw3_awake.f (20 + d) = some true := mono_up tocsinlaw3_awake.mono awake_20 d
theorem wordsL_count : ∀ l cur, (wordsL l cur).length ≤ l.length + 1
  | [], cur => by rw [wordsL]; split <;> simp
  | b :: t, cur => by
    rw [wordsL]
    split
    · split
      · have := wordsL_count t []; simp; omega
      · have := wordsL_count t []; simp; omega
    · have := wordsL_count t (cur ++ [b]); simp; omega
theorem parts_pure (a0 : ByteArray) : tocsinlaw3_NameParts.f (20 + (301 + (wordsL (bL a0) []).length)) a0 = some true := by
  unfold tocsinlaw3_NameParts.f
  rw [awake_up]
  simp only [Option.bind_some, if_true]
  by_cases hs : a0.size ≤ 300
  · rw [if_neg (by omega)]
    unfold name_Words.f
    rw [if_pos (by unfold lim; omega)]
    simp only [Option.bind_some]
    rw [wordsB_eq]
    have hp := wordsL_parts (bL a0) []
    simp only [List.nil_append] at hp
    have hfl : ((wordsL (bL a0) []).flatten).length ≤ 300 := by
      rw [hp]
      exact Nat.le_trans (List.length_filter_le _ _) (by rw [bL_len]; exact hs)
    have hc := wordsL_count (bL a0) []
    rw [bL_len] at hc
    have h0 := parts_l0 a0 (wordsL (bL a0) []) (wordsL_ne _ _) (by omega) (wordsL (bL a0) []).length 0 320 (⟨#[]⟩ : ByteArray) (by omega) (by show 0 + _ ≤ 300; rw [Nat.zero_add]; exact hfl)
    rw [show 20 + (301 + (wordsL (bL a0) []).length) = 320 + (wordsL (bL a0) []).length + 1 by omega]
    rw [show ((0 : Nat) : Int) = 0 from rfl] at h0
    rw [h0]
    have h1 := parts_l1 a0 (⟨#[]⟩ ++ Bs ((wordsL (bL a0) []).drop 0).flatten) hs 320 0 (⟨#[]⟩ : ByteArray) (Nat.zero_le _) (Nat.le_refl _) (by omega)
    rw [show ((0 : Nat) : Int) = 0 from rfl] at h1
    rw [h1]
    simp only [bL_append, bL_Bs, List.drop_zero, hp]
    simp
  · rw [if_pos (by omega)]
theorem own : ownKnob Tryd.prog.godebug = none := by kernel_rfl
theorem Tryd.laidOut : laidOutB Tryd.prog = true := by kernel_rfl
open Go.ChangeShapes Go.WideShapes Go.ChangeAt Go.RowKit
open Go.ChangeMaps (open_string shut_string)
abbrev laidL : List (String × DataW Unit) := [("unicode/utf8.acceptRanges", Rows.laid_unicode_utf8_acceptRanges), ("unicode.properties", Rows.laid_unicode_properties), ("unicode.Letter", Rows.laid_unicode_Letter), ("unicode/utf8.first", Rows.laid_unicode_utf8_first)]
theorem xL : RExtra Tryd.prog Tryd.lays200_ren := ⟨by kernel_rfl, by kernel_rfl, by kernel_rfl, by kernel_rfl, by kernel_rfl, by kernel_rfl, by kernel_rfl, by kernel_rfl⟩
theorem xU : U8Extra Tryd.prog Tryd.lays196_ren := by constructor <;> kernel_rfl
set_option maxRecDepth 1000000 in
theorem tab_of_laid {W : World} (h : laidMetH Tryd.prog laidL W) : Tab W := by
  rw [MakeChecks.laidMetH_plain _ _ _ (by kernel_rfl)] at h
  have r1 : VarReads Tryd.prog W "unicode.properties" Rows.laid_unicode_properties := Lib.laidMet.reads h (.tail _ (.head _))
  have r2 : VarReads Tryd.prog W "unicode.Letter" (rtabData letterT) := Pinned.letter_eq ▸ Lib.laidMet.reads h (.tail _ (.tail _ (.head _)))
  have r3 : VarReads Tryd.prog W "unicode/utf8.first" firstData := Pinned.utf8First_eq ▸ Lib.laidMet.reads h (.tail _ (.tail _ (.tail _ (.head _))))
  have r4 : VarReads Tryd.prog W "unicode/utf8.acceptRanges" acceptData := (show Rows.laid_unicode_utf8_acceptRanges = (acceptData : DataW Unit) by kernel_rfl) ▸ Lib.laidMet.reads h (.head _)
  refine ⟨?_, rvar_of_reads { Tryd.lays200 with } xL (by kernel_rfl) (by kernel_rfl) r2, utf8Tabs_of_readsT (U8Types.of196 Tryd.lays196) xU r3 r4⟩
  obtain ⟨g, t, cs, fuel, p, hg, hty, hvar, hd⟩ := r1
  obtain rfl := Option.some.inj ((show Tryd.prog.globalNamed "unicode.properties" = some (Tryd.lays200_ren.g 7) by kernel_rfl).symm.trans hg)
  obtain rfl := Option.some.inj ((show (Tryd.prog.globals[Tryd.lays200_ren.g 7]?).map (·.type) = some 39 by kernel_rfl).symm.trans hty)
  unfold Lib.TabIs
  rw [hvar, ← Lib.cells_of_tab (n := 256) (e := 5) Tryd.underlying39 Tryd.underlying5 (by kernel_rfl) (by kernel_rfl) hd]
set_option maxRecDepth 100000 in
theorem lifted (os : Os) (started : os.Started) (H : Type) (enc : TypeId × Value → H) :
    ReturnsInHanded {} Tryd.checked os 5 .any (fun w args => (Rows.namePartsSpec.pre enc Tryd.prog Tryd.f5 Rows.namePartsRow.domain false w args ∧ laidMetH Tryd.prog laidL w) ∧ sizedMet enc Tryd.prog Tryd.f5 (OpenSpec.ofChange Rows.namePartsSpec) false w args) (Rows.namePartsSpec.post enc Tryd.prog Tryd.f5 false true false false) := by
  refine returnsInHanded_of_change_and (C := Tryd.checked) (X := fun w _ => laidMetH Tryd.prog laidL w) (fun _ _ _ hh h => h.of_heap hh) own started (by kernel_rfl) Tryd.func5
    (ChangeSpec.witness_shaped (enc := enc) (C := Tryd.checked) (os := os) (X := fun w _ => laidMetH Tryd.prog laidL w) false (World.laidAll Tryd.prog os laidL) #[.string ⟨#[]⟩] 8 (World.laidAll_os _ _ _)
      (World.shaped_of_ZipB (by kernel_rfl) (by kernel_rfl)) (by kernel_rfl) (by kernel_rfl) (by kernel_rfl) (by rw [MakeChecks.laidMetH_plain _ _ _ (by kernel_rfl)]; exact laidMet_laidAll _ (by kernel_rfl) (by kernel_rfl))) ?_
  intro W base args ds gs before hval0 hW hcnd hsz0 hL _
  have hTb := tab_of_laid hL
  have hsz : (DataW.weightsEach Tryd.prog (Tryd.f5.params.toList ++ Rows.namePartsSpec.plain.varTypes Tryd.prog) (ds ++ gs)).all (· ≤ reachBytes) = true := hsz0
  have hval : ∀ (j : Nat) t v, Tryd.f5.params[j]? = some t → args[j]? = some v → Value.okWide Tryd.prog W .any base t v := hval0
  have hW' := hW
  obtain ⟨p, q, hA0, hV, rfl, hfz, hnd⟩ := hW
  have hA : DataW.TrodAll enc Tryd.prog W 0 (fun _ => true) true Tryd.f5.params.toList args.toList ds p := hA0
  rw [Tryd.params5] at hA hval hsz
  obtain ⟨v0, vs0, d0, ds0, p0, q0, hargs, rfl, rfl, h0, r0⟩ := trodAll_cons hA
  obtain ⟨rfl, rfl, rfl⟩ := trodAll_nil r0
  obtain rfl : args = #[v0] := by cases args; simp_all
  obtain ⟨rfl, rfl⟩ := trodVars_none hV
  have k0 := h0
  have lt0 : ∀ x ∈ p0, x.block < W.heap.size := by obtain ⟨m, hm⟩ := k0; exact DataW.trod_lt m _ _ _ hm
  obtain ⟨a0, rfl, rfl, rfl, y0⟩ := open_string Tryd.underlying9 (hval 0 9 v0 rfl rfl) h0
  have w0 : a0.size ≤ 140737488351232 := by
    have z := sized_string hsz (j := 0) (t := 9) rfl rfl
    rw [Array.length_toList] at z
    exact z
  clear hA0 hval0 hsz0 hsz
  refine (tocsinlaw3_NameParts.calls _ a0 true W hTb (parts_pure a0) rfl).mono fun e W' ⟨he, bel⟩ => ?_
  subst he
  exact ⟨_, rfl, _, _, _, _, _, [], hW', trodAll_mk1 (shut_bool Tryd.underlying4 _), (trodAll_cons_mk (Below.trod Tryd.laidOut (by kernel_rfl) (of_decide_eq_true (by kernel_rfl)) k0 bel lt0) trodAll_mk0), rfl, bel.frame _, fun h => by cases h⟩
theorem over : Rows.namePartsRow.holds Tryd.pinned (OpenSpec.ofChange Rows.namePartsSpec) :=
  OpenClaim.holds_of_wide 5 Tryd.f5 rfl rfl rfl rfl rfl rfl rfl ⟨rfl, rfl, rfl, rfl, rfl⟩ rfl rfl rfl rfl rfl (by kernel_rfl) Tryd.func5 (by kernel_rfl)
    (of_decide_eq_true (by kernel_rfl)) (by unfold Func.isWrapper; first | (rw [if_pos (by decide +kernel)]; kernel_rfl) | (rw [if_neg (by decide +kernel)]; exact ⟨rfl, rfl⟩))
    (fun os started H enc _ => lifted os started H enc)
end Go.Proofs.YtfoafigpimhppaaDoor.Pure
namespace Go.Proofs.YtfoafigpimhppaaDoor
open Go
/-- The tied card. -/
theorem namePartsCard_holds : Rows.NamePartsCardSaid :=
  Claim7.holds_tied_plain_at .later [] [.data, .data, .pinned, .pinned] true (true, "88e5fe75c2740dce89efaccb859eab7ad25d7beb69985a56be2168ac3603b69b") false
    Pure.over (fun _ h => by cases h) (by kernel_rfl) (fun _ h => by cases h) nameParts_row_tie rfl ⟨rfl, rfl⟩ (by kernel_rfl) rfl
    (fun f fn hf hfn => by
      obtain rfl : f = 5 := Option.some.inj ((show Tryd.prog.funcNamed "tocsin/tocsinlaw3.NameParts" = some 5 by kernel_rfl).symm.trans hf) |>.symm
      obtain rfl : fn = Tryd.f5 := (Option.some.inj (Tryd.func5.symm.trans hfn)).symm
      exact ⟨by kernel_rfl, fun j t ht => by
        rw [Tryd.params5] at ht
        have hm : t ∈ ([9] : List TypeId) := by simpa using Array.mem_of_getElem? ht
        have hall : (([9] : List TypeId).all fun u => !Tryd.prog.wantsStandIn u) = true := by kernel_rfl
        exact (show Tryd.prog.wantsStandIn t = false by simpa using List.all_eq_true.1 hall t hm)⟩)
    (by kernel_rfl)
end Go.Proofs.YtfoafigpimhppaaDoor
#print axioms Go.Proofs.YtfoafigpimhppaaDoor.namePartsCard_holds
namespace Go.Proofs.YtfoafigpimhppaaDoor.Pure

end Go.Proofs.YtfoafigpimhppaaDoor.Pure
