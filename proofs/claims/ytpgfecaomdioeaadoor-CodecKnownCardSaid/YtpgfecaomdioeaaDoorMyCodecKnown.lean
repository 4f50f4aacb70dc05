/- tocsinlaw26.CodecKnown. -/
import Derived.Test.YtpgfecaomdioeaaDoorPCtx2
import Derived.Test.YtpgfecaomdioeaaDoorPCtKnown
import Derived.Test.YtpgfecaomdioeaaDoorCards
import Derived.Test.YtpgfecaomdioeaaDoorTie
import Derived.LaidMore
import Derived.Stop.Joined
import Derived.SevenTiedAt
import Derived.Lib.LaidTab
import Derived.Lay
import Derived.LaidOnce
import Derived.Test.YtpgfecaomdioeaaDoorRows
import Derived.WalkKit
import Derived.ProofKit
import Derived.OpenShut
import Derived.ShutString
import Derived.ChangeOld
import Derived.Below
import Derived.SizedLaws
import Derived.Carry
import Derived.Lib.SmallJoins
import Derived.Test.YtpgfecaomdioeaaDoorWSized
namespace Go.Proofs.YtpgfecaomdioeaaDoor.Pure
open Go.RowKit Go.Proofs.YtpgfecaomdioeaaDoor.PCt Go.Proofs.YtpgfecaomdioeaaDoorW.PrintWords Go.Proofs.YtpgfecaomdioeaaDoorW.PrintLast Go.Proofs.YtpgfecaomdioeaaDoorW.PrintMore Go.Proofs.YtpgfecaomdioeaaDoor.PCt Go.Lib
set_option linter.unusedVariables false
set_option linter.unusedSimpArgs false

theorem k_put : putT [1, 1, 1, -1] = [3, 2, 1, 0, 6, 0, 20, 0] := by
  show summedL (encN 3 ++ (encN 2 ++ (encN 1 ++ (encN 0 ++ [])))) = _
  rw [encN_small 3 (by decide), encN_small 2 (by decide), encN_small 1 (by decide), encN_small 0 (by decide)]
  decide
theorem k_pt (t : List Int) (h : t.length ≤ 10000) : codec_PutTrace.f 200000 t = some (putT t) := PutTrace_is t h 200000 (by decide)
theorem k_bad (t : List Int) (h : t.length ≤ 1000 ∧ mayT t = false) : codec_PutTrace.f 200000 t = some [] := by
  rw [k_pt t (by omega)]
  unfold putT
  rw [h.2]
  rfl
theorem k_long : codec_PutTrace.f 200000 (List.replicate 10001 0) = some [] := by
  have hm : mayT (List.replicate 10001 0) = false := by
    unfold mayT
    rw [List.length_replicate]
    exact Bool.and_false _
  unfold codec_PutTrace.f
  rw [mayTrace_is _ (by rw [List.length_replicate]; decide) 200000 (by rw [List.length_replicate]; decide), hm]
  rfl
theorem k_get0 : codec_GetTrace.f [0, 0, 0, 0] = some ([], 0) := getTrace_put [] (by decide)
theorem k_get1 : codec_GetTrace.f [] = some ([], 3) := rfl
theorem k_get2 : codec_GetTrace.f [2, 2, 1, 0, 6, 0, 20, 0] = some ([], 3) := by
  unfold codec_GetTrace.f
  rw [if_pos (by decide)]
  unfold readT
  rw [show wbT [2, 2, 1, 0, 6, 0, 20, 0] = false by decide]
  rfl
theorem k_j0 : codec_GetJobs.f [0, 0, 0, 0] = some ([], 3) := rfl
theorem k_j1 : codec_GetJobs.f noneB = some ([], 0) := rfl
theorem k_p0 : codec_PutJobs.f [] = some noneB := rfl
theorem k_p1 : codec_PutJobs.f (List.replicate 1 z48) = some [] := by
  show codec_PutJobs.f [z48] = some []
  simp only [codec_PutJobs.f, if_true]
theorem k_sum : codec_Sum.f 200000 [] = some 0 := Sum_is [] (by decide) 200000 (by decide)
theorem known_f : tocsinlaw26_CodecKnown.f 200000 = some true := by
  unfold tocsinlaw26_CodecKnown.f
  rw [k_get0, k_get1, k_j0, k_p0, k_pt _ (by decide), k_put, k_bad [-2] (by decide), k_bad [200] (by decide), k_p1, k_sum, k_long]
  simp only [Option.bind_some, tocsinlaw26_awake.f, if_true, k_j1]
  have hg : codec_GetTrace.f ((([] : List Int) ++ [3, 2, 1, 0, 6, 0, 20, 0]).set (0 : Int).toNat 2) = some ([], 3) := k_get2
  rw [if_pos (by decide), if_pos (by decide), if_pos (by decide), hg]
  rfl
def Tab (_ : World) : Prop := True
theorem known_walk (W : World) (hTb : Tab W) : Calls Tryd.prog 3 #[] W fun e w' => e = .returned (.bool true) ∧ Below W.heap.size W w' := tocsinlaw26_CodecKnown.calls 200000 true W known_f rfl
theorem own : ownKnob Tryd.prog.godebug = none := by kernel_rfl
theorem Tryd.laidOut : laidOutB Tryd.prog = true := by kernel_rfl
open Go.ChangeShapes Go.WideShapes Go.ChangeAt Go.RowKit
open Go.ChangeMaps (open_string shut_string)
abbrev laidL : List (String × DataW Unit) := [("unicode/utf8.acceptRanges", Rows.laid_unicode_utf8_acceptRanges), ("unicode.properties", Rows.laid_unicode_properties), ("unicode.Letter", Rows.laid_unicode_Letter), ("unicode/utf8.first", Rows.laid_unicode_utf8_first)]
theorem tab_of_laid {W : World} (h : laidMetH Tryd.prog laidL W) : Tab W := trivial
set_option maxRecDepth 100000 in
theorem lifted (os : Os) (started : os.Started) (H : Type) (enc : TypeId × Value → H) :
    ReturnsInHanded {} Tryd.checked os 3 .any (fun w args => (Rows.codecKnownSpec.pre enc Tryd.prog Tryd.f3 Rows.codecKnownRow.domain false w args ∧ laidMetH Tryd.prog laidL w) ∧ sizedMet enc Tryd.prog Tryd.f3 (OpenSpec.ofChange Rows.codecKnownSpec) false w args) (Rows.codecKnownSpec.post enc Tryd.prog Tryd.f3 false true false false) := by
  refine returnsInHanded_of_change_and (C := Tryd.checked) (X := fun w _ => laidMetH Tryd.prog laidL w) (fun _ _ _ hh h => h.of_heap hh) own started (by kernel_rfl) Tryd.func3
    (ChangeSpec.witness_shaped (enc := enc) (C := Tryd.checked) (os := os) (X := fun w _ => laidMetH Tryd.prog laidL w) false (World.laidAll Tryd.prog os laidL) #[] 8 (World.laidAll_os _ _ _)
      (World.shaped_of_ZipB (by kernel_rfl) (by kernel_rfl)) (by kernel_rfl) (by kernel_rfl) (by kernel_rfl) (by rw [MakeChecks.laidMetH_plain _ _ _ (by kernel_rfl)]; exact laidMet_laidAll _ (by kernel_rfl) (by kernel_rfl))) ?_
  intro W base args ds gs before hval0 hW hcnd hsz0 hL _
  have hTb := tab_of_laid hL
  have hsz : (DataW.weightsEach Tryd.prog (Tryd.f3.params.toList ++ Rows.codecKnownSpec.plain.varTypes Tryd.prog) (ds ++ gs)).all (· ≤ reachBytes) = true := hsz0
  have hval : ∀ (j : Nat) t v, Tryd.f3.params[j]? = some t → args[j]? = some v → Value.okWide Tryd.prog W .any base t v := hval0
  have hW' := hW
  obtain ⟨p, q, hA0, hV, rfl, hfz, hnd⟩ := hW
  have hA : DataW.TrodAll enc Tryd.prog W 0 (fun _ => true) true Tryd.f3.params.toList args.toList ds p := hA0
  rw [Tryd.params3] at hA hval hsz
  obtain ⟨rfl, rfl, rfl⟩ := trodAll_none hA
  obtain ⟨rfl, rfl⟩ := trodVars_none hV
  clear hA0 hval0 hsz0 hsz
  refine (known_walk W hTb).mono fun e W' ⟨he, bel⟩ => ?_
  subst he
  exact ⟨_, rfl, _, _, _, _, _, [], hW', trodAll_mk1 (shut_bool Tryd.underlying4 _), trodAll_mk0, rfl, bel.frame _, fun h => by cases h⟩
theorem over : Rows.codecKnownRow.holds Tryd.pinned (OpenSpec.ofChange Rows.codecKnownSpec) :=
  OpenClaim.holds_of_wide 3 Tryd.f3 rfl rfl rfl rfl rfl rfl rfl ⟨rfl, rfl, rfl, rfl, rfl⟩ rfl rfl rfl rfl rfl (by kernel_rfl) Tryd.func3 (by kernel_rfl)
    (of_decide_eq_true (by kernel_rfl)) (by unfold Func.isWrapper; first | (rw [if_pos (by decide +kernel)]; kernel_rfl) | (rw [if_neg (by decide +kernel)]; exact ⟨rfl, rfl⟩))
    (fun os started H enc _ => lifted os started H enc)
end Go.Proofs.YtpgfecaomdioeaaDoor.Pure
namespace Go.Proofs.YtpgfecaomdioeaaDoor
open Go
/-- The tied card. -/
theorem codecKnownCard_holds : Rows.CodecKnownCardSaid :=
  Claim7.holds_tied_plain_at .later [] [.data, .data, .pinned, .pinned] true (true, "cb10c936b7431d6ef6c28867888dba52566e106ed2b145e92213133a3fd56773") false
    Pure.over (fun _ h => by cases h) (by kernel_rfl) (fun _ h => by cases h) codecKnown_row_tie rfl ⟨rfl, rfl⟩ (by kernel_rfl) rfl
    (fun f fn hf hfn => by
      obtain rfl : f = 3 := Option.some.inj ((show Tryd.prog.funcNamed "tocsin/tocsinlaw26.CodecKnown" = some 3 by kernel_rfl).symm.trans hf) |>.symm
      obtain rfl : fn = Tryd.f3 := (Option.some.inj (Tryd.func3.symm.trans hfn)).symm
      exact ⟨by kernel_rfl, fun j t ht => by
        rw [Tryd.params3] at ht
        have hm : t ∈ ([] : List TypeId) := by simpa using Array.mem_of_getElem? ht
        have hall : (([] : List TypeId).all fun u => !Tryd.prog.wantsStandIn u) = true := by kernel_rfl
        exact (show Tryd.prog.wantsStandIn t = false by simpa using List.all_eq_true.1 hall t hm)⟩)
    (by kernel_rfl)
end Go.Proofs.YtpgfecaomdioeaaDoor
#print axioms Go.Proofs.YtpgfecaomdioeaaDoor.codecKnownCard_holds
namespace Go.Proofs.YtpgfecaomdioeaaDoor.Pure

end Go.Proofs.YtpgfecaomdioeaaDoor.Pure
