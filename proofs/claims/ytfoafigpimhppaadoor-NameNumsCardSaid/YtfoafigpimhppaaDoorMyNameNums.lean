/- tocsinlaw3.NameNums, over the listed tables. -/
import Derived.Test.YtfoafigpimhppaaDoorPNmx5
import Derived.Test.YtfoafigpimhppaaDoorNumPlain
import Derived.PinnedBridge
import Derived.Lib.LaidU8T
import Derived.Lib.LaidRTab
import Derived.Test.YtfoafigpimhppaaDoorCards
import Derived.Test.YtfoafigpimhppaaDoorTie
import Derived.LaidMore
import Derived.Stop.Joined
import Derived.SevenTiedAt
import Derived.Lib.LaidTab
import Derived.Lay
import Derived.LaidOnce
import Derived.Test.YtfoafigpimhppaaDoorRows
import Derived.WalkKit
import Derived.ProofKit
import Derived.OpenShut
import Derived.ShutString
import Derived.ChangeOld
import Derived.Below
import Derived.SizedLaws
import Derived.Carry
import Derived.Lib.SmallJoins
import Derived.Test.YtfoafigpimhppaaDoorWSized
namespace Go.Proofs.YtfoafigpimhppaaDoor.Pure
open Go.RowKit Go.Proofs.YtfoafigpimhppaaDoor.PNm Go.Proofs.YtfoafigpimhppaaDoorW.PrintWords Go.Proofs.YtfoafigpimhppaaDoorW.PrintLast Go.Proofs.YtfoafigpimhppaaDoorW.PrintMore Go.Shelf Go.Lib
set_option linter.unusedVariables false
set_option linter.unusedSimpArgs false


def decD : Nat → Nat → List UInt8
  | 0, _ => []
  | k + 1, n => if n < 10 then [UInt8.ofNat (48 + n)] else decD k (n / 10) ++ [UInt8.ofNat (48 + n % 10)]
theorem dig_of (n : Nat) (h : n < 10) : (UInt8.ofNat (48 + n)).toNat = 48 + n := by
  simp [UInt8.toNat_ofNat']; omega
theorem digB_of (n : Nat) (h : n < 10) : digB (UInt8.ofNat (48 + n)) = true := by
  unfold digB; rw [dig_of n h]; simp; omega
theorem decD_num : ∀ k n t, n < 10 ^ k → 1 ≤ k → numFL (decD k n ++ t) 0 = numFL t n := by
  intro k
  induction k with
  | zero => intro n t h h1; omega
  | succ k ih =>
    intro n t h h1
    rw [decD]
    by_cases c : n < 10
    · rw [if_pos c]
      simp only [List.cons_append, List.nil_append, numFL, digB_of n c, if_true, dig_of n c]
      congr 1
      omega
    · have hk : 1 ≤ k := by
        rcases k with _ | k
        · simp at h; omega
        · omega
      have h10 : n / 10 < 10 ^ k := by rw [Nat.pow_succ] at h; omega
      rw [if_neg c, List.append_assoc, ih _ _ h10 hk]
      simp only [List.cons_append, List.nil_append, numFL, digB_of (n % 10) (by omega), if_true, dig_of (n % 10) (by omega)]
      congr 1
      omega
theorem decD_len : ∀ k n, n < 10 ^ k → 1 ≤ k → 1 ≤ (decD k n).length ∧ (decD k n).length ≤ k := by
  intro k
  induction k with
  | zero => intro n h h1; omega
  | succ k ih =>
    intro n h h1
    rw [decD]
    by_cases c : n < 10
    · rw [if_pos c]; simp
    · have hk : 1 ≤ k := by
        rcases k with _ | k
        · simp at h; omega
        · omega
      have h10 : n / 10 < 10 ^ k := by rw [Nat.pow_succ] at h; omega
      rw [if_neg c]
      have := ih _ h10 hk
      simp; omega
theorem decD_digs : ∀ k n, ∀ b ∈ decD k n, digB b = true := by
  intro k
  induction k with
  | zero => intro n b h; cases h
  | succ k ih =>
    intro n b h
    rw [decD] at h
    by_cases c : n < 10
    · rw [if_pos c] at h
      obtain rfl := List.mem_singleton.1 h
      exact digB_of n c
    · rw [if_neg c] at h
      rcases List.mem_append.1 h with h | h
      · exact ih _ b h
      · obtain rfl := List.mem_singleton.1 h
        exact digB_of _ (by omega)
theorem one_num (x : Int) (n : Nat) (h : n < 10) (hx : x = (n : Int)) : strOfNums [(wrap64 (48 + x)) % 256] = Bs [UInt8.ofNat (48 + n)] := by
  subst hx
  rw [w64_of _ (by omega) (by omega), show ((48 + (n : Int)) % 256) = ((48 + n : Nat) : Int) by omega]
  rfl
theorem digits_pos : ∀ (k n : Nat), n < 10 ^ k → 1 ≤ k → k ≤ 12 → n < 1000000000000 → tocsinlaw3_digits.f k (n : Int) = some (Bs (decD k n)) := by
  intro k
  induction k with
  | zero => intro n h h1; omega
  | succ k ih =>
    intro n h h1 h12 hb
    rw [tocsinlaw3_digits.f, decD, if_neg (by omega)]
    by_cases c : n < 10
    · rw [if_pos (by omega), if_pos c, one_num _ n c rfl]
    · have hk : 1 ≤ k := by
        rcases k with _ | k
        · simp at h; omega
        · omega
      have h10 : n / 10 < 10 ^ k := by rw [Nat.pow_succ] at h; omega
      have hd : wrap64 (Int.tdiv (n : Int) 10) = ((n / 10 : Nat) : Int) := by
        rw [show Int.tdiv (n : Int) 10 = ((n / 10 : Nat) : Int) from rfl, w64_of _ (by omega) (by omega)]
      rw [if_neg (by omega), if_neg c, hd, ih (n / 10) h10 hk (by omega) (by omega)]
      simp only [Option.bind_some]
      have hl := decD_len k (n / 10) h10 hk
      rw [one_num _ (n % 10) (by omega) (show Int.tmod (n : Int) 10 = ((n % 10 : Nat) : Int) from rfl)]
      rw [if_pos (by rw [size_Bs, size_Bs]; simp; omega)]
      congr 1
theorem awake_20 : tocsinlaw3_awake.f 20 = some true := by decide +kernel
theorem awake_up (d : Nat) : tocsinlaw3_awake.f (20 + d) = some true := mono_up tocsinlaw3_awake.mono awake_20 d
theorem no_minus (l : List UInt8) (h : ∀ b ∈ l, digB b = true) (t : List UInt8) (ht : l ≠ []) : Lib.hasPrefix (l ++ t) [45] = false := by
  cases l with
  | nil => exact absurd rfl ht
  | cons b l =>
    have := h b (List.mem_cons_self ..)
    unfold Lib.hasPrefix
    simp only [List.cons_append, List.isPrefixOf, Bool.and_true]
    rw [beq_eq_false_iff_ne]
    rintro rfl
    exact absurd this (by decide)
theorem ne_of (k n : Nat) (h : n < 10 ^ k) (h1 : 1 ≤ k) : decD k n ≠ [] := by
  intro e
  have := (decD_len k n h h1).1
  rw [e] at this
  exact absurd this (by decide)
theorem num_pos (n : Nat) (h : n < 1000000000000) : numB (Bs (decD 12 n)) = ((n : Int), true) ∧ (numB (Bs (decD 12 n ++ [120]))).2 = false := by
  have h12 : n < 10 ^ 12 := h
  have hl := decD_len 12 n h12 (by decide)
  have hne := ne_of 12 n h12 (by decide)
  rw [numB_eq, numB_eq, bL_Bs, bL_Bs]
  have p1 := no_minus _ (decD_digs 12 n) [] hne
  have p2 := no_minus _ (decD_digs 12 n) [120] hne
  rw [List.append_nil] at p1
  unfold numS Lib.trimPrefix
  rw [p1, p2]
  simp only [Bool.false_eq_true, if_false]
  refine ⟨?_, ?_⟩
  · rw [if_neg (by omega)]
    have := decD_num 12 n [] h12 (by decide)
    rw [List.append_nil] at this
    rw [this]
    rfl
  · split
    · rfl
    · rw [decD_num 12 n [120] h12 (by decide)]
      rfl
theorem num_neg (n : Nat) (h : n < 1000000000000) : numB (Bs (45 :: decD 12 n)) = (-(n : Int), true) ∧ (numB (Bs (45 :: decD 12 n ++ [120]))).2 = false := by
  have h12 : n < 10 ^ 12 := h
  have hl := decD_len 12 n h12 (by decide)
  rw [numB_eq, numB_eq, bL_Bs, bL_Bs]
  have p1 : Lib.hasPrefix (45 :: decD 12 n) [45] = true := rfl
  have p2 : Lib.hasPrefix (45 :: decD 12 n ++ [120]) [45] = true := rfl
  unfold numS Lib.trimPrefix
  rw [p1, p2]
  simp only [if_true]
  rw [show List.drop [(45 : UInt8)].length (45 :: decD 12 n) = decD 12 n from rfl, show List.drop [(45 : UInt8)].length (45 :: decD 12 n ++ [120]) = decD 12 n ++ [120] from rfl]
  refine ⟨?_, ?_⟩
  · rw [if_neg (by omega)]
    have := decD_num 12 n [] h12 (by decide)
    rw [List.append_nil] at this
    rw [this]
    rfl
  · split
    · rfl
    · rw [decD_num 12 n [120] h12 (by decide)]
      rfl
theorem digits_up {k : Nat} {x : Int} {r : ByteArray} (h : tocsinlaw3_digits.f k x = some r) (d : Nat) : tocsinlaw3_digits.f (k + d) x = some r := by
  induction d with
  | zero => exact h
  | succ d ih => exact tocsinlaw3_digits.mono_l (k + d) x r ih
theorem digits_any (a0 : Int) (h0 : -999999999999 ≤ a0) (h1 : a0 ≤ 999999999999) : ∃ l : List UInt8, tocsinlaw3_digits.f 30 a0 = some (Bs l) ∧ l.length ≤ 13 ∧ numB (Bs l) = (a0, true) ∧ (numB (Bs (l ++ [120]))).2 = false := by
  by_cases hn : 0 ≤ a0
  · obtain ⟨n, rfl⟩ := Int.eq_ofNat_of_zero_le hn
    have hb : n < 1000000000000 := by omega
    have hd := digits_up (digits_pos 12 n hb (by decide) (by decide) hb) 18
    have hl := decD_len 12 n hb (by decide)
    exact ⟨decD 12 n, hd, by omega, (num_pos n hb).1, (num_pos n hb).2⟩
  · obtain ⟨n, hn'⟩ : ∃ n : Nat, a0 = -(n : Int) := ⟨(-a0).toNat, by omega⟩
    subst hn'
    have hb : n < 1000000000000 := by omega
    have hd := digits_up (digits_pos 12 n hb (by decide) (by decide) hb) 17
    have hl := decD_len 12 n hb (by decide)
    refine ⟨45 :: decD 12 n, ?_, by simp; omega, (num_neg n hb).1, (num_neg n hb).2⟩
    rw [show (30 : Nat) = 29 + 1 from rfl, tocsinlaw3_digits.f, if_pos (by omega), w64_of _ (by omega) (by omega), show (- -(n : Int)) = (n : Int) by omega]
    rw [show (29 : Nat) = 12 + 17 from rfl, hd]
    simp only [Option.bind_some]
    rw [if_pos (by rw [size_Bs]; omega)]
    congr 1
theorem nums_pure (a0 : Int) : tocsinlaw3_NameNums.f 31 a0 = some true := by
  unfold tocsinlaw3_NameNums.f
  rw [show (31 : Nat) = 20 + 11 from rfl, awake_up]
  simp only [Option.bind_some, if_true]
  rw [show (20 + 11 : Nat) = 30 + 1 from rfl]
  by_cases c0 : a0 < -999999999999
  · rw [if_pos c0, tocsinlaw3_NameNums.j0, if_pos rfl]
  by_cases c1 : a0 > 999999999999
  · rw [if_neg c0, decide_eq_true c1, tocsinlaw3_NameNums.j0, if_pos rfl]
  rw [if_neg c0, decide_eq_false c1, tocsinlaw3_NameNums.j0, if_neg (by decide)]
  obtain ⟨l, h0, hl, h1, h2⟩ := digits_any a0 (by omega) (by omega)
  rw [h0]
  simp only [Option.bind_some, name_Num.f, h1]
  rw [if_pos (by rw [size_Bs]; omega)]
  have e : Bs l ++ (⟨#[120]⟩ : ByteArray) = Bs (l ++ [120]) := bL_inj (by rw [bL_append, bL_Bs, bL_Bs]; rfl)
  simp only [if_true, e, h2]
  rfl
theorem own : ownKnob Tryd.prog.godebug = none := by kernel_rfl
theorem Tryd.laidOut : laidOutB Tryd.prog = true := by kernel_rfl
open Go.ChangeShapes Go.WideShapes Go.ChangeAt Go.RowKit
open Go.ChangeMaps (open_string shut_string)
abbrev laidL : List (String × DataW Unit) := [("unicode/utf8.acceptRanges", Rows.laid_unicode_utf8_acceptRanges), ("unicode.properties", Rows.laid_unicode_properties), ("unicode.Letter", Rows.laid_unicode_Letter), ("unicode/utf8.first", Rows.laid_unicode_utf8_first)]
theorem xL : RExtra Tryd.prog Tryd.lays200_ren := ⟨by kernel_rfl, by kernel_rfl, by kernel_rfl, by kernel_rfl, by kernel_rfl, by kernel_rfl, by kernel_rfl, by kernel_rfl⟩
theorem xU : U8Extra Tryd.prog Tryd.lays196_ren := by constructor <;> kernel_rfl
set_option maxRecDepth 1000000 in
theorem tab_of_laid {W : World} (h : laidMetH Tryd.prog laidL W) : Tab W := by
  rw [MakeChecks.laidMetH_plain _ _ _ (by kernel_rfl)] at h
  have r1 : VarReads Tryd.prog W "unicode.properties" Rows.laid_unicode_properties := Lib.laidMet.reads h (.tail _ (.head _))
  have r2 : VarReads Tryd.prog W "unicode.Letter" (rtabData letterT) := Pinned.letter_eq ▸ Lib.laidMet.reads h (.tail _ (.tail _ (.head _)))
  have r3 : VarReads Tryd.prog W "unicode/utf8.first" firstData := Pinned.utf8First_eq ▸ Lib.laidMet.reads h (.tail _ (.tail _ (.tail _ (.head _))))
  have r4 : VarReads Tryd.prog W "unicode/utf8.acceptRanges" acceptData := (show Rows.laid_unicode_utf8_acceptRanges = (acceptData : DataW Unit) by kernel_rfl) ▸ Lib.laidMet.reads h (.head _)
  refine ⟨?_, rvar_of_reads { Tryd.lays200 with } xL (by kernel_rfl) (by kernel_rfl) r2, utf8Tabs_of_readsT (U8Types.of196 Tryd.lays196) xU r3 r4⟩
  obtain ⟨g, t, cs, fuel, p, hg, hty, hvar, hd⟩ := r1
  obtain rfl := Option.some.inj ((show Tryd.prog.globalNamed "unicode.properties" = some (Tryd.lays200_ren.g 7) by kernel_rfl).symm.trans hg)
  obtain rfl := Option.some.inj ((show (Tryd.prog.globals[Tryd.lays200_ren.g 7]?).map (·.type) = some 39 by kernel_rfl).symm.trans hty)
  unfold Lib.TabIs
  rw [hvar, ← Lib.cells_of_tab (n := 256) (e := 5) Tryd.underlying39 Tryd.underlying5 (by kernel_rfl) (by kernel_rfl) hd]
set_option maxRecDepth 100000 in
theorem lifted (os : Os) (started : os.Started) (H : Type) (enc : TypeId × Value → H) :
    ReturnsInHanded {} Tryd.checked os 8 .any (fun w args => (Rows.nameNumsSpec.pre enc Tryd.prog Tryd.f8 Rows.nameNumsRow.domain false w args ∧ laidMetH Tryd.prog laidL w) ∧ sizedMet enc Tryd.prog Tryd.f8 (OpenSpec.ofChange Rows.nameNumsSpec) false w args) (Rows.nameNumsSpec.post enc Tryd.prog Tryd.f8 false true false false) := by
  refine returnsInHanded_of_change_and (C := Tryd.checked) (X := fun w _ => laidMetH Tryd.prog laidL w) (fun _ _ _ hh h => h.of_heap hh) own started (by kernel_rfl) Tryd.func8
    (ChangeSpec.witness_shaped (enc := enc) (C := Tryd.checked) (os := os) (X := fun w _ => laidMetH Tryd.prog laidL w) false (World.laidAll Tryd.prog os laidL) #[.int .i64 0] 8 (World.laidAll_os _ _ _)
      (World.shaped_of_ZipB (by kernel_rfl) (by kernel_rfl)) (by kernel_rfl) (by kernel_rfl) (by kernel_rfl) (by rw [MakeChecks.laidMetH_plain _ _ _ (by kernel_rfl)]; exact laidMet_laidAll _ (by kernel_rfl) (by kernel_rfl))) ?_
  intro W base args ds gs before hval0 hW hcnd hsz0 hL _
  have hTb := tab_of_laid hL
  have hsz : (DataW.weightsEach Tryd.prog (Tryd.f8.params.toList ++ Rows.nameNumsSpec.plain.varTypes Tryd.prog) (ds ++ gs)).all (· ≤ reachBytes) = true := hsz0
  have hval : ∀ (j : Nat) t v, Tryd.f8.params[j]? = some t → args[j]? = some v → Value.okWide Tryd.prog W .any base t v := hval0
  have hW' := hW
  obtain ⟨p, q, hA0, hV, rfl, hfz, hnd⟩ := hW
  have hA : DataW.TrodAll enc Tryd.prog W 0 (fun _ => true) true Tryd.f8.params.toList args.toList ds p := hA0
  rw [Tryd.params8] at hA hval hsz
  obtain ⟨v0, vs0, d0, ds0, p0, q0, hargs, rfl, rfl, h0, r0⟩ := trodAll_cons hA
  obtain ⟨rfl, rfl, rfl⟩ := trodAll_nil r0
  obtain rfl : args = #[v0] := by cases args; simp_all
  obtain ⟨rfl, rfl⟩ := trodVars_none hV
  have k0 := h0
  have lt0 : ∀ x ∈ p0, x.block < W.heap.size := by obtain ⟨m, hm⟩ := k0; exact DataW.trod_lt m _ _ _ hm
  obtain ⟨a0, rfl, rfl, rfl, w0⟩ := open_int Tryd.underlying2 (hval 0 2 v0 rfl rfl) h0
  clear hA0 hval0 hsz0 hsz
  refine (tocsinlaw3_NameNums.calls 31 a0 true W hTb (nums_pure a0) rfl).mono fun e W' ⟨he, bel⟩ => ?_
  subst he
  exact ⟨_, rfl, _, _, _, _, _, [], hW', trodAll_mk1 (shut_bool Tryd.underlying4 _), (trodAll_cons_mk (Below.trod Tryd.laidOut (by kernel_rfl) (of_decide_eq_true (by kernel_rfl)) k0 bel lt0) trodAll_mk0), rfl, bel.frame _, fun h => by cases h⟩
theorem over : Rows.nameNumsRow.holds Tryd.pinned (OpenSpec.ofChange Rows.nameNumsSpec) :=
  OpenClaim.holds_of_wide 8 Tryd.f8 rfl rfl rfl rfl rfl rfl rfl ⟨rfl, rfl, rfl, rfl, rfl⟩ rfl rfl rfl rfl rfl (by kernel_rfl) Tryd.func8 (by kernel_rfl)
    (of_decide_eq_true (by kernel_rfl)) (by unfold Func.isWrapper; first | (rw [if_pos (by decide +kernel)]; kernel_rfl) | (rw [if_neg (by decide +kernel)]; exact ⟨rfl, rfl⟩))
    (fun os started H enc _ => lifted os started H enc)
end Go.Proofs.YtfoafigpimhppaaDoor.Pure
namespace Go.Proofs.YtfoafigpimhppaaDoor
open Go
/-- The tied card. -/
theorem nameNumsCard_holds : Rows.NameNumsCardSaid :=
  Claim7.holds_tied_plain_at .later [] [.data, .data, .pinned, .pinned] true (true, "88e5fe75c2740dce89efaccb859eab7ad25d7beb69985a56be2168ac3603b69b") false
    Pure.over (fun _ h => by cases h) (by kernel_rfl) (fun _ h => by cases h) nameNums_row_tie rfl ⟨rfl, rfl⟩ (by kernel_rfl) rfl
    (fun f fn hf hfn => by
      obtain rfl : f = 8 := Option.some.inj ((show Tryd.prog.funcNamed "tocsin/tocsinlaw3.NameNums" = some 8 by kernel_rfl).symm.trans hf) |>.symm
      obtain rfl : fn = Tryd.f8 := (Option.some.inj (Tryd.func8.symm.trans hfn)).symm
      exact ⟨by kernel_rfl, fun j t ht => by
        rw [Tryd.params8] at ht
        have hm : t ∈ ([2] : List TypeId) := by simpa using Array.mem_of_getElem? ht
        have hall : (([2] : List TypeId).all fun u => !Tryd.prog.wantsStandIn u) = true := by kernel_rfl
        exact (show Tryd.prog.wantsStandIn t = false by simpa using List.all_eq_true.1 hall t hm)⟩)
    (by kernel_rfl)
end Go.Proofs.YtfoafigpimhppaaDoor
#print axioms Go.Proofs.YtfoafigpimhppaaDoor.nameNumsCard_holds
namespace Go.Proofs.YtfoafigpimhppaaDoor.Pure

end Go.Proofs.YtfoafigpimhppaaDoor.Pure
