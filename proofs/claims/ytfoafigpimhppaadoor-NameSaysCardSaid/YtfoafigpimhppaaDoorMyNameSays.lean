/- tocsinlaw3.NameSays, over the listed tables. -/
import Derived.Test.YtfoafigpimhppaaDoorPNmx4
import Derived.Test.YtfoafigpimhppaaDoorFieldPlain
import Derived.PinnedBridge
import Derived.Lib.LaidU8T
import Derived.Lib.LaidRTab
import Derived.Test.YtfoafigpimhppaaDoorCards
import Derived.Test.YtfoafigpimhppaaDoorTie
import Derived.LaidMore
import Derived.Stop.Joined
import Derived.SevenTiedAt
import Derived.Lib.LaidTab
import Derived.Lay
import Derived.LaidOnce
import Derived.Test.YtfoafigpimhppaaDoorRows
import Derived.WalkKit
import Derived.ProofKit
import Derived.OpenShut
import Derived.ShutString
import Derived.ChangeOld
import Derived.Below
import Derived.SizedLaws
import Derived.Carry
import Derived.Lib.SmallJoins
import Derived.Test.YtfoafigpimhppaaDoorWSized
namespace Go.Proofs.YtfoafigpimhppaaDoor.Pure
open Go.RowKit Go.Proofs.YtfoafigpimhppaaDoor.PNm Go.Proofs.YtfoafigpimhppaaDoorW.PrintWords Go.Proofs.YtfoafigpimhppaaDoorW.PrintLast Go.Proofs.YtfoafigpimhppaaDoorW.PrintMore Go.Shelf Go.Lib
set_option linter.unusedVariables false
set_option linter.unusedSimpArgs false


theorem goodF_valid (s : ByteArray) : ∀ f p n m, s.size ≤ p + f → p ≤ s.size → goodF (runesF s f p) n = some m → validD ((bL s).drop p) = true := by
  intro f
  have ends : ∀ p, p = s.size → validD ((bL s).drop p) = true := by
    rintro p rfl
    rw [List.drop_eq_nil_of_le (by rw [bL_len]; exact Nat.le_refl _)]
    rfl
  induction f with
  | zero => intro p n m h0 h1 _; exact ends p (by omega)
  | succ f ih =>
    intro p n m h0 h1 h
    by_cases hp : p < s.size
    · rw [runesF_step s f p hp] at h
      have hF := decode_fits s p hp
      have hK := Lib.decode_width_pos s p hp
      have hne : (bL s).drop p ≠ [] := by
        intro e
        have := congrArg List.length e
        rw [List.length_drop, bL_len] at this
        simp only [List.length_nil] at this
        omega
      rw [validD_step _ hne, show decodeL ((bL s).drop p) = Utf8.decode s p from decodeL_drop s p, List.drop_drop]
      simp only [goodF] at h
      split at h
      · rename_i hc
        have hr : (Utf8.decode s p).1 ≠ 65533 := by
          intro e
          rw [e] at hc
          simp only [Bool.or_eq_true, Bool.and_eq_true, decide_eq_true_eq] at hc
          rcases hc with hc | ⟨_, hc | hc⟩
          · exact (letter_not _ hc).1 rfl
          · simp [isDig] at hc
          · omega
        rw [if_neg (fun hx => hr hx.1)]
        exact ih (p + (Utf8.decode s p).2) _ m (by omega) (by omega) h
      · cases h
    · exact ends p (by omega)
theorem good_same (s : ByteArray) : goodB s = refName s := by
  unfold goodB refName
  cases hg : goodF (runes s) 0 with
  | none => simp
  | some n =>
    have hl := goodF_len _ _ _ hg
    have hv := goodF_valid s s.size 0 0 n (by omega) (Nat.zero_le _) hg
    rw [List.drop_zero] at hv
    rw [Nat.zero_add] at hl
    simp only [Option.isSome_some, Bool.and_true, hl]
    rw [show validD s.data.toList = true from hv, Bool.and_true]
theorem rnum_l0 (s : ByteArray) (neg : Bool) (hs : s.size ≤ 12) : ∀ d p n (x : Int), p + d = s.size → 0 ≤ x → x < 10 ^ p →
    tocsinref8_Num.l0 (n + d + 1) s neg x p = some (match numFL ((bL s).drop p) x with | none => (0, false) | some v => (if neg then -v else v, true)) := by
  intro d
  induction d with
  | zero =>
    intro p n x h0 hx0 hx1
    have h12 : x < 1000000000000 := by
      have : (10 : Int) ^ p ≤ 10 ^ 12 := by
        have := Nat.pow_le_pow_right (n := 10) (by omega) (show p ≤ 12 by omega)
        exact_mod_cast this
      omega
    rw [tocsinref8_Num.l0, if_neg (by omega), List.drop_eq_nil_of_le (by rw [bL_len]; omega), w64_of _ (by omega) (by omega)]
    cases neg <;> rfl
  | succ d ih =>
    intro p n x h0 hx0 hx1
    have h12 : x < 100000000000 := by
      have : (10 : Int) ^ p ≤ 10 ^ 11 := by
        have := Nat.pow_le_pow_right (n := 10) (by omega) (show p ≤ 11 by omega)
        exact_mod_cast this
      omega
    have hb := bt_L s p (by omega)
    have hd := drop_at (bL s) p (by rw [bL_len]; omega)
    rw [show n + (d + 1) + 1 = (n + d + 1) + 1 by omega, tocsinref8_Num.l0, if_pos (by omega), if_pos (by omega), hd, hb]
    generalize (bL s).getD p 0 = b
    rw [numFL]
    have hlt := b.toNat_lt
    by_cases c1 : b.toNat < 48
    · rw [if_pos (by omega), if_neg (by simp [digB]; omega)]
    by_cases c2 : b.toNat > 57
    · rw [if_neg (by omega), if_pos (by omega), if_neg (by simp [digB]; omega)]
    rw [if_neg (by omega), if_neg (by omega), if_pos (by simp [digB]; omega), w64_nat p (by omega)]
    have hm : (((b.toNat : Int) - 48) % 256) = (b.toNat : Int) - 48 := by omega
    rw [hm, w64_of (10 * x) (by omega) (by omega), w64_of _ (by omega) (by omega), show 10 * x + ((b.toNat : Int) - 48) = x * 10 + ((b.toNat : Int) - 48) by omega]
    exact ih (p + 1) n _ (by omega) (by omega) (by rw [Int.pow_succ]; omega)
theorem rnum_j1 (s : ByteArray) (neg : Bool) : ∃ K, K ≤ 20 ∧ tocsinref8_Num.j1 K s neg = some (if (bL s).length < 1 ∨ 12 < (bL s).length then (0, false) else match numFL (bL s) 0 with | none => (0, false) | some v => (if neg then -v else v, true)) := by
  rw [bL_len]
  by_cases c0 : s.size < 1
  · refine ⟨2, by omega, ?_⟩
    rw [tocsinref8_Num.j1, if_pos (by omega), tocsinref8_Num.j2, if_pos rfl, if_pos (.inl c0)]
  by_cases c1 : 12 < s.size
  · refine ⟨2, by omega, ?_⟩
    rw [tocsinref8_Num.j1, if_neg (by omega), decide_eq_true (by omega : (s.size : Int) > 12), tocsinref8_Num.j2, if_pos rfl, if_pos (.inr c1)]
  · refine ⟨s.size + 3, by omega, ?_⟩
    rw [tocsinref8_Num.j1, if_neg (by omega), decide_eq_false (by omega : ¬ (s.size : Int) > 12), tocsinref8_Num.j2, if_neg (by decide), if_neg (by omega)]
    have := rnum_l0 s neg (by omega) s.size 0 0 0 (by omega) (by omega) (by decide)
    rw [List.drop_zero, Nat.zero_add] at this
    exact this
theorem rnum_f (s : ByteArray) (K : Nat) (hK : 30 ≤ K) : tocsinref8_Num.f K s = some (numS (bL s)) := by
  obtain ⟨k, hk, hlt⟩ : ∃ k, tocsinref8_Num.f k s = some (numS (bL s)) ∧ k ≤ 30 := by
    unfold tocsinref8_Num.f numS Lib.trimPrefix
    by_cases h0 : 0 < s.size
    · have hb := bt_L s 0 h0
      have hd := drop_at (bL s) 0 (by rw [bL_len]; exact h0)
      rw [List.drop_zero, Nat.zero_add] at hd
      rw [show ((0 : Nat) : Int) = 0 from rfl] at hb
      generalize hg : (bL s).getD 0 0 = b at hb hd
      have hp : Lib.hasPrefix (bL s) [45] = (b == 45) := by
        rw [hd]
        unfold Lib.hasPrefix
        simp only [List.isPrefixOf, Bool.and_true]
        rw [Bool.eq_iff_iff, beq_iff_eq, beq_iff_eq]
        exact eq_comm
      have hbb : (bt s 0 == 45) = (b == 45) := by
        rw [hb, Bool.eq_iff_iff, beq_iff_eq, beq_iff_eq, ← UInt8.toNat_inj]
        show _ ↔ b.toNat = 45
        omega
      rw [hp]
      cases hneg : (b == 45) with
      | true =>
        obtain ⟨k, hk, e⟩ := rnum_j1 (s.extract 1 s.size) true
        refine ⟨k + 1, ?_, by omega⟩
        rw [if_pos (by omega), if_pos (by omega), hbb, hneg, tocsinref8_Num.j0, if_pos rfl, if_pos (by omega), e]
        have hx : bL (s.extract 1 s.size) = List.drop [(45 : UInt8)].length (bL s) := by
          rw [bL_extract, List.take_of_length_le (by rw [List.length_drop, bL_len]; exact Nat.le_refl _)]
          rfl
        rw [hx]
        simp only [if_true]
        rfl
      | false =>
        obtain ⟨k, hk, e⟩ := rnum_j1 s false
        refine ⟨k + 1, ?_, by omega⟩
        rw [if_pos (by omega), if_pos (by omega), hbb, hneg, tocsinref8_Num.j0, if_neg (by decide), e]
        simp only [Bool.false_eq_true, if_false]
        rfl
    · have he : bL s = [] := List.eq_nil_of_length_eq_zero (by rw [bL_len]; omega)
      obtain ⟨k, hk, e⟩ := rnum_j1 s false
      refine ⟨k + 1, ?_, by omega⟩
      rw [if_neg (by omega), tocsinref8_Num.j0, if_neg (by decide), e, he]
      rfl
  exact lift (tocsinref8_Num.mono s) hk K (by omega)
theorem awake_20 : tocsinlaw3_awake.f 20 = some true := by decide +kernel
theorem says_pure (a0 a1 : ByteArray) : tocsinlaw3_NameSays.f 700 a0 a1 = some true := by
  unfold tocsinlaw3_NameSays.f
  rw [lift tocsinlaw3_awake.mono awake_20 700 (by decide)]
  simp only [Option.bind_some, if_true]
  rw [show (700 : Nat) = 699 + 1 from rfl]
  by_cases c0 : (a0.size : Int) > 300
  · rw [if_pos c0, tocsinlaw3_NameSays.j0, if_pos rfl]
  by_cases c1 : (a1.size : Int) > 50
  · rw [if_neg c0, decide_eq_true c1, tocsinlaw3_NameSays.j0, if_pos rfl]
  have hc := wordsL_count (bL a0) []
  rw [bL_len] at hc
  rw [if_neg c0, decide_eq_false c1, tocsinlaw3_NameSays.j0, if_neg (by decide), rnum_f a0 699 (by decide), field_f a0 a1 (by omega) (by omega) 699 (by decide), rfield_f a0 a1 (by omega) (by omega) 699 (by decide), rwords_f a0 (by omega) 699 (by decide)]
  unfold name_Num.f name_Good.f tocsinref8_GoodName.f name_Len.f tocsinref8_Len.f name_Words.f
  have hl : a0.size ≤ lim := by unfold lim; omega
  simp only [hl, if_true, Option.bind_some, good_same, beq_self_eq_true, numB_eq, wordsB_eq, Option.bind_some]
  rw [texts_f _ (by rw [List.length_map]; omega) 699 (by decide)]
  simp only [Option.bind_some, if_true]
theorem own : ownKnob Tryd.prog.godebug = none := by kernel_rfl
theorem Tryd.laidOut : laidOutB Tryd.prog = true := by kernel_rfl
open Go.ChangeShapes Go.WideShapes Go.ChangeAt Go.RowKit
open Go.ChangeMaps (open_string shut_string)
abbrev laidL : List (String × DataW Unit) := [("unicode/utf8.acceptRanges", Rows.laid_unicode_utf8_acceptRanges), ("unicode.properties", Rows.laid_unicode_properties), ("unicode.Letter", Rows.laid_unicode_Letter), ("unicode/utf8.first", Rows.laid_unicode_utf8_first)]
theorem xL : RExtra Tryd.prog Tryd.lays200_ren := ⟨by kernel_rfl, by kernel_rfl, by kernel_rfl, by kernel_rfl, by kernel_rfl, by kernel_rfl, by kernel_rfl, by kernel_rfl⟩
theorem xU : U8Extra Tryd.prog Tryd.lays196_ren := by constructor <;> kernel_rfl
set_option maxRecDepth 1000000 in
theorem tab_of_laid {W : World} (h : laidMetH Tryd.prog laidL W) : Tab W := by
  rw [MakeChecks.laidMetH_plain _ _ _ (by kernel_rfl)] at h
  have r1 : VarReads Tryd.prog W "unicode.properties" Rows.laid_unicode_properties := Lib.laidMet.reads h (.tail _ (.head _))
  have r2 : VarReads Tryd.prog W "unicode.Letter" (rtabData letterT) := Pinned.letter_eq ▸ Lib.laidMet.reads h (.tail _ (.tail _ (.head _)))
  have r3 : VarReads Tryd.prog W "unicode/utf8.first" firstData := Pinned.utf8First_eq ▸ Lib.laidMet.reads h (.tail _ (.tail _ (.tail _ (.head _))))
  have r4 : VarReads Tryd.prog W "unicode/utf8.acceptRanges" acceptData := (show Rows.laid_unicode_utf8_acceptRanges = (acceptData : DataW Unit) by kernel_rfl) ▸ Lib.laidMet.reads h (.head _)
  refine ⟨?_, rvar_of_reads { Tryd.lays200 with } xL (by kernel_rfl) (by kernel_rfl) r2, utf8Tabs_of_readsT (U8Types.of196 Tryd.lays196) xU r3 r4⟩
  obtain ⟨g, t, cs, fuel, p, hg, hty, hvar, hd⟩ := r1
  obtain rfl := Option.some.inj ((show Tryd.prog.globalNamed "unicode.properties" = some (Tryd.lays200_ren.g 7) by kernel_rfl).symm.trans hg)
  obtain rfl := Option.some.inj ((show (Tryd.prog.globals[Tryd.lays200_ren.g 7]?).map (·.type) = some 39 by kernel_rfl).symm.trans hty)
  unfold Lib.TabIs
  rw [hvar, ← Lib.cells_of_tab (n := 256) (e := 5) Tryd.underlying39 Tryd.underlying5 (by kernel_rfl) (by kernel_rfl) hd]
set_option maxRecDepth 100000 in
theorem lifted (os : Os) (started : os.Started) (H : Type) (enc : TypeId × Value → H) :
    ReturnsInHanded {} Tryd.checked os 7 .any (fun w args => (Rows.nameSaysSpec.pre enc Tryd.prog Tryd.f7 Rows.nameSaysRow.domain false w args ∧ laidMetH Tryd.prog laidL w) ∧ sizedMet enc Tryd.prog Tryd.f7 (OpenSpec.ofChange Rows.nameSaysSpec) false w args) (Rows.nameSaysSpec.post enc Tryd.prog Tryd.f7 false true false false) := by
  refine returnsInHanded_of_change_and (C := Tryd.checked) (X := fun w _ => laidMetH Tryd.prog laidL w) (fun _ _ _ hh h => h.of_heap hh) own started (by kernel_rfl) Tryd.func7
    (ChangeSpec.witness_shaped (enc := enc) (C := Tryd.checked) (os := os) (X := fun w _ => laidMetH Tryd.prog laidL w) false (World.laidAll Tryd.prog os laidL) #[.string ⟨#[]⟩, .string ⟨#[]⟩] 8 (World.laidAll_os _ _ _)
      (World.shaped_of_ZipB (by kernel_rfl) (by kernel_rfl)) (by kernel_rfl) (by kernel_rfl) (by kernel_rfl) (by rw [MakeChecks.laidMetH_plain _ _ _ (by kernel_rfl)]; exact laidMet_laidAll _ (by kernel_rfl) (by kernel_rfl))) ?_
  intro W base args ds gs before hval0 hW hcnd hsz0 hL _
  have hTb := tab_of_laid hL
  have hsz : (DataW.weightsEach Tryd.prog (Tryd.f7.params.toList ++ Rows.nameSaysSpec.plain.varTypes Tryd.prog) (ds ++ gs)).all (· ≤ reachBytes) = true := hsz0
  have hval : ∀ (j : Nat) t v, Tryd.f7.params[j]? = some t → args[j]? = some v → Value.okWide Tryd.prog W .any base t v := hval0
  have hW' := hW
  obtain ⟨p, q, hA0, hV, rfl, hfz, hnd⟩ := hW
  have hA : DataW.TrodAll enc Tryd.prog W 0 (fun _ => true) true Tryd.f7.params.toList args.toList ds p := hA0
  rw [Tryd.params7] at hA hval hsz
  obtain ⟨v0, vs0, d0, ds0, p0, q0, hargs, rfl, rfl, h0, r0⟩ := trodAll_cons hA
  obtain ⟨v1, vs1, d1, ds1, p1, q1, rfl, rfl, rfl, h1, r1⟩ := trodAll_cons r0
  obtain ⟨rfl, rfl, rfl⟩ := trodAll_nil r1
  obtain rfl : args = #[v0, v1] := by cases args; simp_all
  obtain ⟨rfl, rfl⟩ := trodVars_none hV
  have k0 := h0
  have k1 := h1
  have lt0 : ∀ x ∈ p0, x.block < W.heap.size := by obtain ⟨m, hm⟩ := k0; exact DataW.trod_lt m _ _ _ hm
  have lt1 : ∀ x ∈ p1, x.block < W.heap.size := by obtain ⟨m, hm⟩ := k1; exact DataW.trod_lt m _ _ _ hm
  obtain ⟨a0, rfl, rfl, rfl, y0⟩ := open_string Tryd.underlying9 (hval 0 9 v0 rfl rfl) h0
  have w0 : a0.size ≤ 140737488351232 := by
    have z := sized_string hsz (j := 0) (t := 9) rfl rfl
    rw [Array.length_toList] at z
    exact z
  obtain ⟨a1, rfl, rfl, rfl, y1⟩ := open_string Tryd.underlying9 (hval 1 9 v1 rfl rfl) h1
  have w1 : a1.size ≤ 140737488351232 := by
    have z := sized_string hsz (j := 1) (t := 9) rfl rfl
    rw [Array.length_toList] at z
    exact z
  clear hA0 hval0 hsz0 hsz
  refine (tocsinlaw3_NameSays.calls 700 a0 a1 true W hTb (says_pure a0 a1) rfl).mono fun e W' ⟨he, bel⟩ => ?_
  subst he
  exact ⟨_, rfl, _, _, _, _, _, [], hW', trodAll_mk1 (shut_bool Tryd.underlying4 _), (trodAll_cons_mk (Below.trod Tryd.laidOut (by kernel_rfl) (of_decide_eq_true (by kernel_rfl)) k0 bel lt0) (trodAll_cons_mk (Below.trod Tryd.laidOut (by kernel_rfl) (of_decide_eq_true (by kernel_rfl)) k1 bel lt1) trodAll_mk0)), rfl, bel.frame _, fun h => by cases h⟩
theorem over : Rows.nameSaysRow.holds Tryd.pinned (OpenSpec.ofChange Rows.nameSaysSpec) :=
  OpenClaim.holds_of_wide 7 Tryd.f7 rfl rfl rfl rfl rfl rfl rfl ⟨rfl, rfl, rfl, rfl, rfl⟩ rfl rfl rfl rfl rfl (by kernel_rfl) Tryd.func7 (by kernel_rfl)
    (of_decide_eq_true (by kernel_rfl)) (by unfold Func.isWrapper; first | (rw [if_pos (by decide +kernel)]; kernel_rfl) | (rw [if_neg (by decide +kernel)]; exact ⟨rfl, rfl⟩))
    (fun os started H enc _ => lifted os started H enc)
end Go.Proofs.YtfoafigpimhppaaDoor.Pure
namespace Go.Proofs.YtfoafigpimhppaaDoor
open Go
/-- The tied card. -/
theorem nameSaysCard_holds : Rows.NameSaysCardSaid :=
  Claim7.holds_tied_plain_at .later [] [.data, .data, .pinned, .pinned] true (true, "88e5fe75c2740dce89efaccb859eab7ad25d7beb69985a56be2168ac3603b69b") false
    Pure.over (fun _ h => by cases h) (by kernel_rfl) (fun _ h => by cases h) nameSays_row_tie rfl ⟨rfl, rfl⟩ (by kernel_rfl) rfl
    (fun f fn hf hfn => by
      obtain rfl : f = 7 := Option.some.inj ((show Tryd.prog.funcNamed "tocsin/tocsinlaw3.NameSays" = some 7 by kernel_rfl).symm.trans hf) |>.symm
      obtain rfl : fn = Tryd.f7 := (Option.some.inj (Tryd.func7.symm.trans hfn)).symm
      exact ⟨by kernel_rfl, fun j t ht => by
        rw [Tryd.params7] at ht
        have hm : t ∈ ([9, 9] : List TypeId) := by simpa using Array.mem_of_getElem? ht
        have hall : (([9, 9] : List TypeId).all fun u => !Tryd.prog.wantsStandIn u) = true := by kernel_rfl
        exact (show Tryd.prog.wantsStandIn t = false by simpa using List.all_eq_true.1 hall t hm)⟩)
    (by kernel_rfl)
end Go.Proofs.YtfoafigpimhppaaDoor
#print axioms Go.Proofs.YtfoafigpimhppaaDoor.nameSaysCard_holds
namespace Go.Proofs.YtfoafigpimhppaaDoor.Pure

end Go.Proofs.YtfoafigpimhppaaDoor.Pure
