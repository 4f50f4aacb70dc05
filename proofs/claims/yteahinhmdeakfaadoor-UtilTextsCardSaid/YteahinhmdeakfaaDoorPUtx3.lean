-- functions and contracts as the kit's print.py writes them, the roots chosen in this session (wip/proots.sh)
import Derived.Test.YteahinhmdeakfaaDoorPUtx0
import Derived.Test.YteahinhmdeakfaaDoorStUt
import Derived.Test.YteahinhmdeakfaaDoorPUtx1
namespace Go.Proofs.YteahinhmdeakfaaDoor.PUt
open Go.RowKit Go.Proofs.YteahinhmdeakfaaDoorW.PrintWords Go.Proofs.YteahinhmdeakfaaDoorW.PrintLast Go.Proofs.YteahinhmdeakfaaDoorW.PrintMore
attribute [local go_sem] max2_int min2_int max_two min_two max_three min_three max_four min_four   -- for this text's walks alone
set_option linter.unusedVariables false
set_option linter.unusedSimpArgs false

/-! ### tocsinlaw12_UtilKnown: function 5 -/
def tocsinlaw12_UtilKnown.f (k : Nat)  : Option (Bool) := (tocsinlaw12_awake.f k).bind fun t141 => (if t141 = true then ((util_Of.f 0 1).bind fun bt142 => ((util_Of.f 1 10001).bind fun bt144 => ((util_Of.f 1000 1).bind fun bt146 => ((util_Period.f k 1 0).bind fun bt148 => ((util_Period.f k 1000 1).bind fun bt150 => ((util_Sum.f k ([] : List Int)).bind fun bt152 => ((util_Sum.f k (([1, (-1)] : List Int))).bind fun bt157 => ((util_Sum.f k (([4611686018427387904, 4611686018427387904] : List Int))).bind fun bt162 => ((util_Period.f k 1 4611686018427387904).bind fun bt164 => (if bt142.2 = true then (some false) else (if bt144.2 = true then (some false) else (if bt146.2 = true then (if bt146.1 = 1048576000 then (if bt148.2 = true then (some false) else (if bt150.2 = true then (some false) else (if bt152.2 = true then (if bt152.1 = 0 then (if bt157.2 = true then (some false) else (if bt162.2 = true then (some false) else (if bt164.2 = true then (if bt164.1 = 1 then ((util_Text.f 0).bind fun t166 => (if t166.toList = ([48, 46, 48, 48, 48] : List UInt8) then ((util_Text.f (-1048576)).bind fun t167 => (if t167.toList = ([45, 49, 46, 48, 48, 48] : List UInt8) then ((util_Text.f 1).bind fun t168 => (if t168.toList = ([48, 46, 48, 48, 48] : List UInt8) then ((util_Text.f 3407872).bind fun t169 => (some (t169.toList == ([51, 46, 50, 53, 48] : List UInt8)))) else (some false))) else (some false))) else (some false))) else (some false)) else (some false)))) else (some false)) else (some false)))) else (some false)) else (some false))))))))))))) else (some false))
theorem tocsinlaw12_UtilKnown.mono : ∀ k, LeO (tocsinlaw12_UtilKnown.f k ) (tocsinlaw12_UtilKnown.f (k + 1) ) := by
  intro  k
  unfold tocsinlaw12_UtilKnown.f
  repeat' first
      | (with_reducible exact tocsinlaw12_awake.mono _)
      | (with_reducible exact util_Period.mono _ _ _)
      | (with_reducible exact util_Sum.mono _ _)
      | (with_reducible exact LeO.refl _)
      | (with_reducible exact LeO.none _)
      | (with_reducible refine LeO.ite ?_ ?_)
      | (with_reducible refine LeO.bind ?_ (fun _ => ?_))
      | exact tocsinlaw12_awake.mono _
      | exact util_Period.mono _ _ _
      | exact util_Sum.mono _ _
      | exact LeO.none _
      | refine LeO.ite ?_ ?_
      | refine LeO.bind ?_ (fun _ => ?_)
set_option maxHeartbeats 8000000 in
set_option maxRecDepth 100000 in
theorem tocsinlaw12_UtilKnown.calls (k : Nat)  (r : Bool) (w : World) (hTb : Tab w) (h : tocsinlaw12_UtilKnown.f k  = some r) (hr_ : r = true) :
    Calls Tryd.prog 5 #[] w fun e w' => e = .returned (.bool r) ∧ Below w.heap.size w w' := by
  have HTb := Aside0.mk hTb
  clear hTb
  have HB := Aside0.mk (Below.refl w.heap.size w)
  have H : ((tocsinlaw12_awake.f k).bind fun t141 => (if t141 = true then ((util_Of.f 0 1).bind fun bt142 => ((util_Of.f 1 10001).bind fun bt144 => ((util_Of.f 1000 1).bind fun bt146 => ((util_Period.f k 1 0).bind fun bt148 => ((util_Period.f k 1000 1).bind fun bt150 => ((util_Sum.f k ([] : List Int)).bind fun bt152 => ((util_Sum.f k (([1, (-1)] : List Int))).bind fun bt157 => ((util_Sum.f k (([4611686018427387904, 4611686018427387904] : List Int))).bind fun bt162 => ((util_Period.f k 1 4611686018427387904).bind fun bt164 => (if bt142.2 = true then (some false) else (if bt144.2 = true then (some false) else (if bt146.2 = true then (if bt146.1 = 1048576000 then (if bt148.2 = true then (some false) else (if bt150.2 = true then (some false) else (if bt152.2 = true then (if bt152.1 = 0 then (if bt157.2 = true then (some false) else (if bt162.2 = true then (some false) else (if bt164.2 = true then (if bt164.1 = 1 then ((util_Text.f 0).bind fun t166 => (if t166.toList = ([48, 46, 48, 48, 48] : List UInt8) then ((util_Text.f (-1048576)).bind fun t167 => (if t167.toList = ([45, 49, 46, 48, 48, 48] : List UInt8) then ((util_Text.f 1).bind fun t168 => (if t168.toList = ([48, 46, 48, 48, 48] : List UInt8) then ((util_Text.f 3407872).bind fun t169 => (some (t169.toList == ([51, 46, 50, 53, 48] : List UInt8)))) else (some false))) else (some false))) else (some false))) else (some false)) else (some false)))) else (some false)) else (some false)))) else (some false)) else (some false))))))))))))) else (some false))) = some r := h
  clear h
  replace H := Option.bind_eq_some_iff.mp H
  obtain ⟨t141, A10, H⟩ := H
  replace H : (if t141 = true then ((util_Of.f 0 1).bind fun bt142 => ((util_Of.f 1 10001).bind fun bt144 => ((util_Of.f 1000 1).bind fun bt146 => ((util_Period.f k 1 0).bind fun bt148 => ((util_Period.f k 1000 1).bind fun bt150 => ((util_Sum.f k ([] : List Int)).bind fun bt152 => ((util_Sum.f k (([1, (-1)] : List Int))).bind fun bt157 => ((util_Sum.f k (([4611686018427387904, 4611686018427387904] : List Int))).bind fun bt162 => ((util_Period.f k 1 4611686018427387904).bind fun bt164 => (if bt142.2 = true then (some false) else (if bt144.2 = true then (some false) else (if bt146.2 = true then (if bt146.1 = 1048576000 then (if bt148.2 = true then (some false) else (if bt150.2 = true then (some false) else (if bt152.2 = true then (if bt152.1 = 0 then (if bt157.2 = true then (some false) else (if bt162.2 = true then (some false) else (if bt164.2 = true then (if bt164.1 = 1 then ((util_Text.f 0).bind fun t166 => (if t166.toList = ([48, 46, 48, 48, 48] : List UInt8) then ((util_Text.f (-1048576)).bind fun t167 => (if t167.toList = ([45, 49, 46, 48, 48, 48] : List UInt8) then ((util_Text.f 1).bind fun t168 => (if t168.toList = ([48, 46, 48, 48, 48] : List UInt8) then ((util_Text.f 3407872).bind fun t169 => (some (t169.toList == ([51, 46, 50, 53, 48] : List UInt8)))) else (some false))) else (some false))) else (some false))) else (some false)) else (some false)))) else (some false)) else (some false)))) else (some false)) else (some false))))))))))))) else (some false)) = some r := H
  have A1 := Aside0.mk A10
  clear A10
  by_cases c2 : t141 = true
  · subst c2
    have H1 : ((util_Of.f 0 1).bind fun bt142 => ((util_Of.f 1 10001).bind fun bt144 => ((util_Of.f 1000 1).bind fun bt146 => ((util_Period.f k 1 0).bind fun bt148 => ((util_Period.f k 1000 1).bind fun bt150 => ((util_Sum.f k ([] : List Int)).bind fun bt152 => ((util_Sum.f k (([1, (-1)] : List Int))).bind fun bt157 => ((util_Sum.f k (([4611686018427387904, 4611686018427387904] : List Int))).bind fun bt162 => ((util_Period.f k 1 4611686018427387904).bind fun bt164 => (if bt142.2 = true then (some false) else (if bt144.2 = true then (some false) else (if bt146.2 = true then (if bt146.1 = 1048576000 then (if bt148.2 = true then (some false) else (if bt150.2 = true then (some false) else (if bt152.2 = true then (if bt152.1 = 0 then (if bt157.2 = true then (some false) else (if bt162.2 = true then (some false) else (if bt164.2 = true then (if bt164.1 = 1 then ((util_Text.f 0).bind fun t166 => (if t166.toList = ([48, 46, 48, 48, 48] : List UInt8) then ((util_Text.f (-1048576)).bind fun t167 => (if t167.toList = ([45, 49, 46, 48, 48, 48] : List UInt8) then ((util_Text.f 1).bind fun t168 => (if t168.toList = ([48, 46, 48, 48, 48] : List UInt8) then ((util_Text.f 3407872).bind fun t169 => (some (t169.toList == ([51, 46, 50, 53, 48] : List UInt8)))) else (some false))) else (some false))) else (some false))) else (some false)) else (some false)))) else (some false)) else (some false)))) else (some false)) else (some false))))))))))))) = some r := by rw [if_pos rfl] at H; exact H
    clear H
    have H := H1
    clear H1
    replace H := Option.bind_eq_some_iff.mp H
    obtain ⟨⟨t142, t143⟩, A30, H⟩ := H
    replace H : ((util_Of.f 1 10001).bind fun bt144 => ((util_Of.f 1000 1).bind fun bt146 => ((util_Period.f k 1 0).bind fun bt148 => ((util_Period.f k 1000 1).bind fun bt150 => ((util_Sum.f k ([] : List Int)).bind fun bt152 => ((util_Sum.f k (([1, (-1)] : List Int))).bind fun bt157 => ((util_Sum.f k (([4611686018427387904, 4611686018427387904] : List Int))).bind fun bt162 => ((util_Period.f k 1 4611686018427387904).bind fun bt164 => (if t143 = true then (some false) else (if bt144.2 = true then (some false) else (if bt146.2 = true then (if bt146.1 = 1048576000 then (if bt148.2 = true then (some false) else (if bt150.2 = true then (some false) else (if bt152.2 = true then (if bt152.1 = 0 then (if bt157.2 = true then (some false) else (if bt162.2 = true then (some false) else (if bt164.2 = true then (if bt164.1 = 1 then ((util_Text.f 0).bind fun t166 => (if t166.toList = ([48, 46, 48, 48, 48] : List UInt8) then ((util_Text.f (-1048576)).bind fun t167 => (if t167.toList = ([45, 49, 46, 48, 48, 48] : List UInt8) then ((util_Text.f 1).bind fun t168 => (if t168.toList = ([48, 46, 48, 48, 48] : List UInt8) then ((util_Text.f 3407872).bind fun t169 => (some (t169.toList == ([51, 46, 50, 53, 48] : List UInt8)))) else (some false))) else (some false))) else (some false))) else (some false)) else (some false)))) else (some false)) else (some false)))) else (some false)) else (some false)))))))))))) = some r := H
    have A3 := Aside0.mk A30
    clear A30
    replace H := Option.bind_eq_some_iff.mp H
    obtain ⟨⟨t144, t145⟩, A40, H⟩ := H
    replace H : ((util_Of.f 1000 1).bind fun bt146 => ((util_Period.f k 1 0).bind fun bt148 => ((util_Period.f k 1000 1).bind fun bt150 => ((util_Sum.f k ([] : List Int)).bind fun bt152 => ((util_Sum.f k (([1, (-1)] : List Int))).bind fun bt157 => ((util_Sum.f k (([4611686018427387904, 4611686018427387904] : List Int))).bind fun bt162 => ((util_Period.f k 1 4611686018427387904).bind fun bt164 => (if t143 = true then (some false) else (if t145 = true then (some false) else (if bt146.2 = true then (if bt146.1 = 1048576000 then (if bt148.2 = true then (some false) else (if bt150.2 = true then (some false) else (if bt152.2 = true then (if bt152.1 = 0 then (if bt157.2 = true then (some false) else (if bt162.2 = true then (some false) else (if bt164.2 = true then (if bt164.1 = 1 then ((util_Text.f 0).bind fun t166 => (if t166.toList = ([48, 46, 48, 48, 48] : List UInt8) then ((util_Text.f (-1048576)).bind fun t167 => (if t167.toList = ([45, 49, 46, 48, 48, 48] : List UInt8) then ((util_Text.f 1).bind fun t168 => (if t168.toList = ([48, 46, 48, 48, 48] : List UInt8) then ((util_Text.f 3407872).bind fun t169 => (some (t169.toList == ([51, 46, 50, 53, 48] : List UInt8)))) else (some false))) else (some false))) else (some false))) else (some false)) else (some false)))) else (some false)) else (some false)))) else (some false)) else (some false))))))))))) = some r := H
    have A4 := Aside0.mk A40
    clear A40
    replace H := Option.bind_eq_some_iff.mp H
    obtain ⟨⟨t146, t147⟩, A50, H⟩ := H
    replace H : ((util_Period.f k 1 0).bind fun bt148 => ((util_Period.f k 1000 1).bind fun bt150 => ((util_Sum.f k ([] : List Int)).bind fun bt152 => ((util_Sum.f k (([1, (-1)] : List Int))).bind fun bt157 => ((util_Sum.f k (([4611686018427387904, 4611686018427387904] : List Int))).bind fun bt162 => ((util_Period.f k 1 4611686018427387904).bind fun bt164 => (if t143 = true then (some false) else (if t145 = true then (some false) else (if t147 = true then (if t146 = 1048576000 then (if bt148.2 = true then (some false) else (if bt150.2 = true then (some false) else (if bt152.2 = true then (if bt152.1 = 0 then (if bt157.2 = true then (some false) else (if bt162.2 = true then (some false) else (if bt164.2 = true then (if bt164.1 = 1 then ((util_Text.f 0).bind fun t166 => (if t166.toList = ([48, 46, 48, 48, 48] : List UInt8) then ((util_Text.f (-1048576)).bind fun t167 => (if t167.toList = ([45, 49, 46, 48, 48, 48] : List UInt8) then ((util_Text.f 1).bind fun t168 => (if t168.toList = ([48, 46, 48, 48, 48] : List UInt8) then ((util_Text.f 3407872).bind fun t169 => (some (t169.toList == ([51, 46, 50, 53, 48] : List UInt8)))) else (some false))) else (some false))) else (some false))) else (some false)) else (some false)))) else (some false)) else (some false)))) else (some false)) else (some false)))))))))) = some r := H
    have A5 := Aside0.mk A50
    clear A50
    replace H := Option.bind_eq_some_iff.mp H
    obtain ⟨⟨t148, t149⟩, A60, H⟩ := H
    replace H : ((util_Period.f k 1000 1).bind fun bt150 => ((util_Sum.f k ([] : List Int)).bind fun bt152 => ((util_Sum.f k (([1, (-1)] : List Int))).bind fun bt157 => ((util_Sum.f k (([4611686018427387904, 4611686018427387904] : List Int))).bind fun bt162 => ((util_Period.f k 1 4611686018427387904).bind fun bt164 => (if t143 = true then (some false) else (if t145 = true then (some false) else (if t147 = true then (if t146 = 1048576000 then (if t149 = true then (some false) else (if bt150.2 = true then (some false) else (if bt152.2 = true then (if bt152.1 = 0 then (if bt157.2 = true then (some false) else (if bt162.2 = true then (some false) else (if bt164.2 = true then (if bt164.1 = 1 then ((util_Text.f 0).bind fun t166 => (if t166.toList = ([48, 46, 48, 48, 48] : List UInt8) then ((util_Text.f (-1048576)).bind fun t167 => (if t167.toList = ([45, 49, 46, 48, 48, 48] : List UInt8) then ((util_Text.f 1).bind fun t168 => (if t168.toList = ([48, 46, 48, 48, 48] : List UInt8) then ((util_Text.f 3407872).bind fun t169 => (some (t169.toList == ([51, 46, 50, 53, 48] : List UInt8)))) else (some false))) else (some false))) else (some false))) else (some false)) else (some false)))) else (some false)) else (some false)))) else (some false)) else (some false))))))))) = some r := H
    have A6 := Aside0.mk A60
    clear A60
    replace H := Option.bind_eq_some_iff.mp H
    obtain ⟨⟨t150, t151⟩, A70, H⟩ := H
    replace H : ((util_Sum.f k ([] : List Int)).bind fun bt152 => ((util_Sum.f k (([1, (-1)] : List Int))).bind fun bt157 => ((util_Sum.f k (([4611686018427387904, 4611686018427387904] : List Int))).bind fun bt162 => ((util_Period.f k 1 4611686018427387904).bind fun bt164 => (if t143 = true then (some false) else (if t145 = true then (some false) else (if t147 = true then (if t146 = 1048576000 then (if t149 = true then (some false) else (if t151 = true then (some false) else (if bt152.2 = true then (if bt152.1 = 0 then (if bt157.2 = true then (some false) else (if bt162.2 = true then (some false) else (if bt164.2 = true then (if bt164.1 = 1 then ((util_Text.f 0).bind fun t166 => (if t166.toList = ([48, 46, 48, 48, 48] : List UInt8) then ((util_Text.f (-1048576)).bind fun t167 => (if t167.toList = ([45, 49, 46, 48, 48, 48] : List UInt8) then ((util_Text.f 1).bind fun t168 => (if t168.toList = ([48, 46, 48, 48, 48] : List UInt8) then ((util_Text.f 3407872).bind fun t169 => (some (t169.toList == ([51, 46, 50, 53, 48] : List UInt8)))) else (some false))) else (some false))) else (some false))) else (some false)) else (some false)))) else (some false)) else (some false)))) else (some false)) else (some false)))))))) = some r := H
    have A7 := Aside0.mk A70
    clear A70
    replace H := Option.bind_eq_some_iff.mp H
    obtain ⟨⟨t152, t153⟩, A80, H⟩ := H
    replace H : ((util_Sum.f k (([1, (-1)] : List Int))).bind fun bt157 => ((util_Sum.f k (([4611686018427387904, 4611686018427387904] : List Int))).bind fun bt162 => ((util_Period.f k 1 4611686018427387904).bind fun bt164 => (if t143 = true then (some false) else (if t145 = true then (some false) else (if t147 = true then (if t146 = 1048576000 then (if t149 = true then (some false) else (if t151 = true then (some false) else (if t153 = true then (if t152 = 0 then (if bt157.2 = true then (some false) else (if bt162.2 = true then (some false) else (if bt164.2 = true then (if bt164.1 = 1 then ((util_Text.f 0).bind fun t166 => (if t166.toList = ([48, 46, 48, 48, 48] : List UInt8) then ((util_Text.f (-1048576)).bind fun t167 => (if t167.toList = ([45, 49, 46, 48, 48, 48] : List UInt8) then ((util_Text.f 1).bind fun t168 => (if t168.toList = ([48, 46, 48, 48, 48] : List UInt8) then ((util_Text.f 3407872).bind fun t169 => (some (t169.toList == ([51, 46, 50, 53, 48] : List UInt8)))) else (some false))) else (some false))) else (some false))) else (some false)) else (some false)))) else (some false)) else (some false)))) else (some false)) else (some false))))))) = some r := H
    have A8 := Aside0.mk A80
    clear A80
    obtain ⟨y154, hy154⟩ : ∃ y_ : List Int, y_ = (([1, (-1)] : List Int)) := ⟨_, rfl⟩
    replace H : ((util_Sum.f k y154).bind fun bt157 => ((util_Sum.f k (([4611686018427387904, 4611686018427387904] : List Int))).bind fun bt162 => ((util_Period.f k 1 4611686018427387904).bind fun bt164 => (if t143 = true then (some false) else (if t145 = true then (some false) else (if t147 = true then (if t146 = 1048576000 then (if t149 = true then (some false) else (if t151 = true then (some false) else (if t153 = true then (if t152 = 0 then (if bt157.2 = true then (some false) else (if bt162.2 = true then (some false) else (if bt164.2 = true then (if bt164.1 = 1 then ((util_Text.f 0).bind fun t166 => (if t166.toList = ([48, 46, 48, 48, 48] : List UInt8) then ((util_Text.f (-1048576)).bind fun t167 => (if t167.toList = ([45, 49, 46, 48, 48, 48] : List UInt8) then ((util_Text.f 1).bind fun t168 => (if t168.toList = ([48, 46, 48, 48, 48] : List UInt8) then ((util_Text.f 3407872).bind fun t169 => (some (t169.toList == ([51, 46, 50, 53, 48] : List UInt8)))) else (some false))) else (some false))) else (some false))) else (some false)) else (some false)))) else (some false)) else (some false)))) else (some false)) else (some false))))))) = some r := by first | (rw [hy154]; with_reducible exact H) | (have H2_ := (Option.bind_some _ _).symm.trans H; rw [hy154]; with_reducible exact H2_) | (have H2_ := (Option.bind_some _ _).symm.trans H; with_reducible exact H2_) | with_reducible exact H | (rw [hy154]; exact H) | exact H
    have Ny154 := Aside0.mk hy154
    clear hy154
    replace H := Option.bind_eq_some_iff.mp H
    obtain ⟨⟨t157, t158⟩, A90, H⟩ := H
    replace H : ((util_Sum.f k (([4611686018427387904, 4611686018427387904] : List Int))).bind fun bt162 => ((util_Period.f k 1 4611686018427387904).bind fun bt164 => (if t143 = true then (some false) else (if t145 = true then (some false) else (if t147 = true then (if t146 = 1048576000 then (if t149 = true then (some false) else (if t151 = true then (some false) else (if t153 = true then (if t152 = 0 then (if t158 = true then (some false) else (if bt162.2 = true then (some false) else (if bt164.2 = true then (if bt164.1 = 1 then ((util_Text.f 0).bind fun t166 => (if t166.toList = ([48, 46, 48, 48, 48] : List UInt8) then ((util_Text.f (-1048576)).bind fun t167 => (if t167.toList = ([45, 49, 46, 48, 48, 48] : List UInt8) then ((util_Text.f 1).bind fun t168 => (if t168.toList = ([48, 46, 48, 48, 48] : List UInt8) then ((util_Text.f 3407872).bind fun t169 => (some (t169.toList == ([51, 46, 50, 53, 48] : List UInt8)))) else (some false))) else (some false))) else (some false))) else (some false)) else (some false)))) else (some false)) else (some false)))) else (some false)) else (some false)))))) = some r := H
    have A9 := Aside0.mk A90
    clear A90
    obtain ⟨y159, hy159⟩ : ∃ y_ : List Int, y_ = (([4611686018427387904, 4611686018427387904] : List Int)) := ⟨_, rfl⟩
    replace H : ((util_Sum.f k y159).bind fun bt162 => ((util_Period.f k 1 4611686018427387904).bind fun bt164 => (if t143 = true then (some false) else (if t145 = true then (some false) else (if t147 = true then (if t146 = 1048576000 then (if t149 = true then (some false) else (if t151 = true then (some false) else (if t153 = true then (if t152 = 0 then (if t158 = true then (some false) else (if bt162.2 = true then (some false) else (if bt164.2 = true then (if bt164.1 = 1 then ((util_Text.f 0).bind fun t166 => (if t166.toList = ([48, 46, 48, 48, 48] : List UInt8) then ((util_Text.f (-1048576)).bind fun t167 => (if t167.toList = ([45, 49, 46, 48, 48, 48] : List UInt8) then ((util_Text.f 1).bind fun t168 => (if t168.toList = ([48, 46, 48, 48, 48] : List UInt8) then ((util_Text.f 3407872).bind fun t169 => (some (t169.toList == ([51, 46, 50, 53, 48] : List UInt8)))) else (some false))) else (some false))) else (some false))) else (some false)) else (some false)))) else (some false)) else (some false)))) else (some false)) else (some false)))))) = some r := by first | (rw [hy159]; with_reducible exact H) | (have H2_ := (Option.bind_some _ _).symm.trans H; rw [hy159]; with_reducible exact H2_) | (have H2_ := (Option.bind_some _ _).symm.trans H; with_reducible exact H2_) | with_reducible exact H | (rw [hy159]; exact H) | exact H
    have Ny159 := Aside0.mk hy159
    clear hy159
    replace H := Option.bind_eq_some_iff.mp H
    obtain ⟨⟨t162, t163⟩, A100, H⟩ := H
    replace H : ((util_Period.f k 1 4611686018427387904).bind fun bt164 => (if t143 = true then (some false) else (if t145 = true then (some false) else (if t147 = true then (if t146 = 1048576000 then (if t149 = true then (some false) else (if t151 = true then (some false) else (if t153 = true then (if t152 = 0 then (if t158 = true then (some false) else (if t163 = true then (some false) else (if bt164.2 = true then (if bt164.1 = 1 then ((util_Text.f 0).bind fun t166 => (if t166.toList = ([48, 46, 48, 48, 48] : List UInt8) then ((util_Text.f (-1048576)).bind fun t167 => (if t167.toList = ([45, 49, 46, 48, 48, 48] : List UInt8) then ((util_Text.f 1).bind fun t168 => (if t168.toList = ([48, 46, 48, 48, 48] : List UInt8) then ((util_Text.f 3407872).bind fun t169 => (some (t169.toList == ([51, 46, 50, 53, 48] : List UInt8)))) else (some false))) else (some false))) else (some false))) else (some false)) else (some false)))) else (some false)) else (some false)))) else (some false)) else (some false))))) = some r := H
    have A10 := Aside0.mk A100
    clear A100
    replace H := Option.bind_eq_some_iff.mp H
    obtain ⟨⟨t164, t165⟩, A110, H⟩ := H
    replace H : (if t143 = true then (some false) else (if t145 = true then (some false) else (if t147 = true then (if t146 = 1048576000 then (if t149 = true then (some false) else (if t151 = true then (some false) else (if t153 = true then (if t152 = 0 then (if t158 = true then (some false) else (if t163 = true then (some false) else (if t165 = true then (if t164 = 1 then ((util_Text.f 0).bind fun t166 => (if t166.toList = ([48, 46, 48, 48, 48] : List UInt8) then ((util_Text.f (-1048576)).bind fun t167 => (if t167.toList = ([45, 49, 46, 48, 48, 48] : List UInt8) then ((util_Text.f 1).bind fun t168 => (if t168.toList = ([48, 46, 48, 48, 48] : List UInt8) then ((util_Text.f 3407872).bind fun t169 => (some (t169.toList == ([51, 46, 50, 53, 48] : List UInt8)))) else (some false))) else (some false))) else (some false))) else (some false)) else (some false)))) else (some false)) else (some false)))) else (some false)) else (some false)))) = some r := H
    have A11 := Aside0.mk A110
    clear A110
    by_cases c12 : t143 = true
    · subst c12
      have H1 : (some false) = some r := by rw [if_pos rfl] at H; exact H
      clear H
      have H := H1
      clear H1
      obtain rfl := Option.some.inj H
      exact absurd hr_ (by decide)
    · replace c12 := Bool.eq_false_iff.mpr c12
      subst c12
      have H1 : (if t145 = true then (some false) else (if t147 = true then (if t146 = 1048576000 then (if t149 = true then (some false) else (if t151 = true then (some false) else (if t153 = true then (if t152 = 0 then (if t158 = true then (some false) else (if t163 = true then (some false) else (if t165 = true then (if t164 = 1 then ((util_Text.f 0).bind fun t166 => (if t166.toList = ([48, 46, 48, 48, 48] : List UInt8) then ((util_Text.f (-1048576)).bind fun t167 => (if t167.toList = ([45, 49, 46, 48, 48, 48] : List UInt8) then ((util_Text.f 1).bind fun t168 => (if t168.toList = ([48, 46, 48, 48, 48] : List UInt8) then ((util_Text.f 3407872).bind fun t169 => (some (t169.toList == ([51, 46, 50, 53, 48] : List UInt8)))) else (some false))) else (some false))) else (some false))) else (some false)) else (some false)))) else (some false)) else (some false)))) else (some false)) else (some false))) = some r := by rw [if_neg (show ¬ (false = true) by decide)] at H; exact H
      clear H
      have H := H1
      clear H1
      by_cases c26 : t145 = true
      · subst c26
        have H1 : (some false) = some r := by rw [if_pos rfl] at H; exact H
        clear H
        have H := H1
        clear H1
        obtain rfl := Option.some.inj H
        exact absurd hr_ (by decide)
      · replace c26 := Bool.eq_false_iff.mpr c26
        subst c26
        have H1 : (if t147 = true then (if t146 = 1048576000 then (if t149 = true then (some false) else (if t151 = true then (some false) else (if t153 = true then (if t152 = 0 then (if t158 = true then (some false) else (if t163 = true then (some false) else (if t165 = true then (if t164 = 1 then ((util_Text.f 0).bind fun t166 => (if t166.toList = ([48, 46, 48, 48, 48] : List UInt8) then ((util_Text.f (-1048576)).bind fun t167 => (if t167.toList = ([45, 49, 46, 48, 48, 48] : List UInt8) then ((util_Text.f 1).bind fun t168 => (if t168.toList = ([48, 46, 48, 48, 48] : List UInt8) then ((util_Text.f 3407872).bind fun t169 => (some (t169.toList == ([51, 46, 50, 53, 48] : List UInt8)))) else (some false))) else (some false))) else (some false))) else (some false)) else (some false)))) else (some false)) else (some false)))) else (some false)) else (some false)) = some r := by rw [if_neg (show ¬ (false = true) by decide)] at H; exact H
        clear H
        have H := H1
        clear H1
        by_cases c40 : t147 = true
        · subst c40
          have H1 : (if t146 = 1048576000 then (if t149 = true then (some false) else (if t151 = true then (some false) else (if t153 = true then (if t152 = 0 then (if t158 = true then (some false) else (if t163 = true then (some false) else (if t165 = true then (if t164 = 1 then ((util_Text.f 0).bind fun t166 => (if t166.toList = ([48, 46, 48, 48, 48] : List UInt8) then ((util_Text.f (-1048576)).bind fun t167 => (if t167.toList = ([45, 49, 46, 48, 48, 48] : List UInt8) then ((util_Text.f 1).bind fun t168 => (if t168.toList = ([48, 46, 48, 48, 48] : List UInt8) then ((util_Text.f 3407872).bind fun t169 => (some (t169.toList == ([51, 46, 50, 53, 48] : List UInt8)))) else (some false))) else (some false))) else (some false))) else (some false)) else (some false)))) else (some false)) else (some false)))) else (some false)) = some r := by rw [if_pos rfl] at H; exact H
          clear H
          have H := H1
          clear H1
          by_cases c41 : t146 = 1048576000
          · rw [if_pos c41] at H
            have c41b0 : (t146 == 1048576000) = true := beq_iff_eq.mpr c41
            have c41b1 : (t146 != 1048576000) = false := bne_eq_false_iff_eq.mpr c41
            clear c41
            by_cases c42 : t149 = true
            · subst c42
              have H1 : (some false) = some r := by rw [if_pos rfl] at H; exact H
              clear H
              have H := H1
              clear H1
              obtain rfl := Option.some.inj H
              exact absurd hr_ (by decide)
            · replace c42 := Bool.eq_false_iff.mpr c42
              subst c42
              have H1 : (if t151 = true then (some false) else (if t153 = true then (if t152 = 0 then (if t158 = true then (some false) else (if t163 = true then (some false) else (if t165 = true then (if t164 = 1 then ((util_Text.f 0).bind fun t166 => (if t166.toList = ([48, 46, 48, 48, 48] : List UInt8) then ((util_Text.f (-1048576)).bind fun t167 => (if t167.toList = ([45, 49, 46, 48, 48, 48] : List UInt8) then ((util_Text.f 1).bind fun t168 => (if t168.toList = ([48, 46, 48, 48, 48] : List UInt8) then ((util_Text.f 3407872).bind fun t169 => (some (t169.toList == ([51, 46, 50, 53, 48] : List UInt8)))) else (some false))) else (some false))) else (some false))) else (some false)) else (some false)))) else (some false)) else (some false))) = some r := by rw [if_neg (show ¬ (false = true) by decide)] at H; exact H
              clear H
              have H := H1
              clear H1
              by_cases c56 : t151 = true
              · subst c56
                have H1 : (some false) = some r := by rw [if_pos rfl] at H; exact H
                clear H
                have H := H1
                clear H1
                obtain rfl := Option.some.inj H
                exact absurd hr_ (by decide)
              · replace c56 := Bool.eq_false_iff.mpr c56
                subst c56
                have H1 : (if t153 = true then (if t152 = 0 then (if t158 = true then (some false) else (if t163 = true then (some false) else (if t165 = true then (if t164 = 1 then ((util_Text.f 0).bind fun t166 => (if t166.toList = ([48, 46, 48, 48, 48] : List UInt8) then ((util_Text.f (-1048576)).bind fun t167 => (if t167.toList = ([45, 49, 46, 48, 48, 48] : List UInt8) then ((util_Text.f 1).bind fun t168 => (if t168.toList = ([48, 46, 48, 48, 48] : List UInt8) then ((util_Text.f 3407872).bind fun t169 => (some (t169.toList == ([51, 46, 50, 53, 48] : List UInt8)))) else (some false))) else (some false))) else (some false))) else (some false)) else (some false)))) else (some false)) else (some false)) = some r := by rw [if_neg (show ¬ (false = true) by decide)] at H; exact H
                clear H
                have H := H1
                clear H1
                by_cases c70 : t153 = true
                · subst c70
                  have H1 : (if t152 = 0 then (if t158 = true then (some false) else (if t163 = true then (some false) else (if t165 = true then (if t164 = 1 then ((util_Text.f 0).bind fun t166 => (if t166.toList = ([48, 46, 48, 48, 48] : List UInt8) then ((util_Text.f (-1048576)).bind fun t167 => (if t167.toList = ([45, 49, 46, 48, 48, 48] : List UInt8) then ((util_Text.f 1).bind fun t168 => (if t168.toList = ([48, 46, 48, 48, 48] : List UInt8) then ((util_Text.f 3407872).bind fun t169 => (some (t169.toList == ([51, 46, 50, 53, 48] : List UInt8)))) else (some false))) else (some false))) else (some false))) else (some false)) else (some false)))) else (some false)) = some r := by rw [if_pos rfl] at H; exact H
                  clear H
                  have H := H1
                  clear H1
                  by_cases c71 : t152 = 0
                  · rw [if_pos c71] at H
                    have c71b0 : (t152 == 0) = true := beq_iff_eq.mpr c71
                    have c71b1 : (t152 != 0) = false := bne_eq_false_iff_eq.mpr c71
                    clear c71
                    by_cases c72 : t158 = true
                    · subst c72
                      have H1 : (some false) = some r := by rw [if_pos rfl] at H; exact H
                      clear H
                      have H := H1
                      clear H1
                      obtain rfl := Option.some.inj H
                      exact absurd hr_ (by decide)
                    · replace c72 := Bool.eq_false_iff.mpr c72
                      subst c72
                      have H1 : (if t163 = true then (some false) else (if t165 = true then (if t164 = 1 then ((util_Text.f 0).bind fun t166 => (if t166.toList = ([48, 46, 48, 48, 48] : List UInt8) then ((util_Text.f (-1048576)).bind fun t167 => (if t167.toList = ([45, 49, 46, 48, 48, 48] : List UInt8) then ((util_Text.f 1).bind fun t168 => (if t168.toList = ([48, 46, 48, 48, 48] : List UInt8) then ((util_Text.f 3407872).bind fun t169 => (some (t169.toList == ([51, 46, 50, 53, 48] : List UInt8)))) else (some false))) else (some false))) else (some false))) else (some false)) else (some false))) = some r := by rw [if_neg (show ¬ (false = true) by decide)] at H; exact H
                      clear H
                      have H := H1
                      clear H1
                      by_cases c86 : t163 = true
                      · subst c86
                        have H1 : (some false) = some r := by rw [if_pos rfl] at H; exact H
                        clear H
                        have H := H1
                        clear H1
                        obtain rfl := Option.some.inj H
                        exact absurd hr_ (by decide)
                      · replace c86 := Bool.eq_false_iff.mpr c86
                        subst c86
                        have H1 : (if t165 = true then (if t164 = 1 then ((util_Text.f 0).bind fun t166 => (if t166.toList = ([48, 46, 48, 48, 48] : List UInt8) then ((util_Text.f (-1048576)).bind fun t167 => (if t167.toList = ([45, 49, 46, 48, 48, 48] : List UInt8) then ((util_Text.f 1).bind fun t168 => (if t168.toList = ([48, 46, 48, 48, 48] : List UInt8) then ((util_Text.f 3407872).bind fun t169 => (some (t169.toList == ([51, 46, 50, 53, 48] : List UInt8)))) else (some false))) else (some false))) else (some false))) else (some false)) else (some false)) = some r := by rw [if_neg (show ¬ (false = true) by decide)] at H; exact H
                        clear H
                        have H := H1
                        clear H1
                        by_cases c100 : t165 = true
                        · subst c100
                          have H1 : (if t164 = 1 then ((util_Text.f 0).bind fun t166 => (if t166.toList = ([48, 46, 48, 48, 48] : List UInt8) then ((util_Text.f (-1048576)).bind fun t167 => (if t167.toList = ([45, 49, 46, 48, 48, 48] : List UInt8) then ((util_Text.f 1).bind fun t168 => (if t168.toList = ([48, 46, 48, 48, 48] : List UInt8) then ((util_Text.f 3407872).bind fun t169 => (some (t169.toList == ([51, 46, 50, 53, 48] : List UInt8)))) else (some false))) else (some false))) else (some false))) else (some false)) = some r := by rw [if_pos rfl] at H; exact H
                          clear H
                          have H := H1
                          clear H1
                          by_cases c101 : t164 = 1
                          · rw [if_pos c101] at H
                            have c101b0 : (t164 == 1) = true := beq_iff_eq.mpr c101
                            have c101b1 : (t164 != 1) = false := bne_eq_false_iff_eq.mpr c101
                            clear c101
                            replace H := Option.bind_eq_some_iff.mp H
                            obtain ⟨t166, A1020, H⟩ := H
                            replace H : (if t166.toList = ([48, 46, 48, 48, 48] : List UInt8) then ((util_Text.f (-1048576)).bind fun t167 => (if t167.toList = ([45, 49, 46, 48, 48, 48] : List UInt8) then ((util_Text.f 1).bind fun t168 => (if t168.toList = ([48, 46, 48, 48, 48] : List UInt8) then ((util_Text.f 3407872).bind fun t169 => (some (t169.toList == ([51, 46, 50, 53, 48] : List UInt8)))) else (some false))) else (some false))) else (some false)) = some r := H
                            have A102 := Aside0.mk A1020
                            clear A1020
                            by_cases c103 : t166.toList = ([48, 46, 48, 48, 48] : List UInt8)
                            · rw [if_pos c103] at H
                              have c103b0 : (t166.toList == ([48, 46, 48, 48, 48] : List UInt8)) = true := beq_iff_eq.mpr c103
                              have c103b1 : (t166.toList != ([48, 46, 48, 48, 48] : List UInt8)) = false := bne_eq_false_iff_eq.mpr c103
                              clear c103
                              replace H := Option.bind_eq_some_iff.mp H
                              obtain ⟨t167, A1040, H⟩ := H
                              replace H : (if t167.toList = ([45, 49, 46, 48, 48, 48] : List UInt8) then ((util_Text.f 1).bind fun t168 => (if t168.toList = ([48, 46, 48, 48, 48] : List UInt8) then ((util_Text.f 3407872).bind fun t169 => (some (t169.toList == ([51, 46, 50, 53, 48] : List UInt8)))) else (some false))) else (some false)) = some r := H
                              have A104 := Aside0.mk A1040
                              clear A1040
                              by_cases c105 : t167.toList = ([45, 49, 46, 48, 48, 48] : List UInt8)
                              · rw [if_pos c105] at H
                                have c105b0 : (t167.toList == ([45, 49, 46, 48, 48, 48] : List UInt8)) = true := beq_iff_eq.mpr c105
                                have c105b1 : (t167.toList != ([45, 49, 46, 48, 48, 48] : List UInt8)) = false := bne_eq_false_iff_eq.mpr c105
                                clear c105
                                replace H := Option.bind_eq_some_iff.mp H
                                obtain ⟨t168, A1060, H⟩ := H
                                replace H : (if t168.toList = ([48, 46, 48, 48, 48] : List UInt8) then ((util_Text.f 3407872).bind fun t169 => (some (t169.toList == ([51, 46, 50, 53, 48] : List UInt8)))) else (some false)) = some r := H
                                have A106 := Aside0.mk A1060
                                clear A1060
                                by_cases c107 : t168.toList = ([48, 46, 48, 48, 48] : List UInt8)
                                · rw [if_pos c107] at H
                                  have c107b0 : (t168.toList == ([48, 46, 48, 48, 48] : List UInt8)) = true := beq_iff_eq.mpr c107
                                  have c107b1 : (t168.toList != ([48, 46, 48, 48, 48] : List UInt8)) = false := bne_eq_false_iff_eq.mpr c107
                                  clear c107
                                  replace H := Option.bind_eq_some_iff.mp H
                                  obtain ⟨t169, A1080, H⟩ := H
                                  replace H : (some (t169.toList == ([51, 46, 50, 53, 48] : List UInt8))) = some r := H
                                  have A108 := Aside0.mk A1080
                                  clear A1080
                                  obtain rfl := Option.some.inj H
                                  go_enter Tryd.func5, Tryd.ntmps5
                                  go_wp2_with (first | ((with_reducible refine gate_callee (f := 8) rfl ?_); refine goesL_ (some 19) rfl rfl Tryd.func8 (by kernel_rfl) rfl #[] rfl (by (try simp only [List.map_toArray, List.map_cons, List.map_nil]); first | done | rfl | (simp only [List.length_drop, List.length_take]; rfl)) ?_; (with_reducible refine (tocsinlaw12_awake.calls k  true _ (tab_below HTb.out (by repeat (first | (with_reducible first | exact HB.out | apply below_alloc | apply pw_below_drewN | apply below_drew1) | exact HB.out))) A1.out).mono ?_); rintro e w109 ⟨rfl, hb⟩; refine ⟨_, rfl, ?_⟩; have n0_ := Aside0.mk (below_step (by repeat (first | (with_reducible first | exact HB.out | apply below_alloc | apply pw_below_drewN | apply below_drew1) | exact HB.out)) hb); clear HB; have HB := n0_; clear n0_; (try clear hb); (try clear hb2); (try clear hk); (try clear hi)) | ((with_reducible refine gate_callee (f := 10) rfl ?_); refine goesL_ (some 22) rfl rfl Tryd.func10 (by kernel_rfl) rfl #[.int .i64 0, .int .i64 1] rfl (by (try simp only [List.map_toArray, List.map_cons, List.map_nil]); first | done | rfl | (simp only [List.length_drop, List.length_take]; rfl)) ?_; (with_reducible refine (util_Of.calls 0 1 t142 false _ A3.out).mono ?_); rintro e w110 ⟨rfl, hb⟩; refine ⟨_, rfl, ?_⟩; have n0_ := Aside0.mk (below_step (by repeat (first | (with_reducible first | exact HB.out | apply below_alloc | apply pw_below_drewN | apply below_drew1) | exact HB.out)) hb); clear HB; have HB := n0_; clear n0_; (try clear hb); (try clear hb2); (try clear hk); (try clear hi)) | ((with_reducible refine gate_callee (f := 10) rfl ?_); refine goesL_ (some 26) rfl rfl Tryd.func10 (by kernel_rfl) rfl #[.int .i64 1, .int .i64 10001] rfl (by (try simp only [List.map_toArray, List.map_cons, List.map_nil]); first | done | rfl | (simp only [List.length_drop, List.length_take]; rfl)) ?_; (with_reducible refine (util_Of.calls 1 10001 t144 false _ A4.out).mono ?_); rintro e w111 ⟨rfl, hb⟩; refine ⟨_, rfl, ?_⟩; have n0_ := Aside0.mk (below_step (by repeat (first | (with_reducible first | exact HB.out | apply below_alloc | apply pw_below_drewN | apply below_drew1) | exact HB.out)) hb); clear HB; have HB := n0_; clear n0_; (try clear hb); (try clear hb2); (try clear hk); (try clear hi)) | ((with_reducible refine gate_callee (f := 10) rfl ?_); refine goesL_ (some 30) rfl rfl Tryd.func10 (by kernel_rfl) rfl #[.int .i64 1000, .int .i64 1] rfl (by (try simp only [List.map_toArray, List.map_cons, List.map_nil]); first | done | rfl | (simp only [List.length_drop, List.length_take]; rfl)) ?_; (with_reducible refine (util_Of.calls 1000 1 t146 true _ A5.out).mono ?_); rintro e w112 ⟨rfl, hb⟩; refine ⟨_, rfl, ?_⟩; have n0_ := Aside0.mk (below_step (by repeat (first | (with_reducible first | exact HB.out | apply below_alloc | apply pw_below_drewN | apply below_drew1) | exact HB.out)) hb); clear HB; have HB := n0_; clear n0_; (try clear hb); (try clear hb2); (try clear hk); (try clear hi)) | ((with_reducible refine gate_callee (f := 9) rfl ?_); refine goesL_ (some 34) rfl rfl Tryd.func9 (by kernel_rfl) rfl #[.int .i64 1, .int .i64 0] rfl (by (try simp only [List.map_toArray, List.map_cons, List.map_nil]); first | done | rfl | (simp only [List.length_drop, List.length_take]; rfl)) ?_; (with_reducible refine (util_Period.calls k 1 0 t148 false _ A6.out).mono ?_); rintro e w113 ⟨rfl, hb⟩; refine ⟨_, rfl, ?_⟩; have n0_ := Aside0.mk (below_step (by repeat (first | (with_reducible first | exact HB.out | apply below_alloc | apply pw_below_drewN | apply below_drew1) | exact HB.out)) hb); clear HB; have HB := n0_; clear n0_; (try clear hb); (try clear hb2); (try clear hk); (try clear hi)) | ((with_reducible refine gate_callee (f := 9) rfl ?_); refine goesL_ (some 38) rfl rfl Tryd.func9 (by kernel_rfl) rfl #[.int .i64 1000, .int .i64 1] rfl (by (try simp only [List.map_toArray, List.map_cons, List.map_nil]); first | done | rfl | (simp only [List.length_drop, List.length_take]; rfl)) ?_; (with_reducible refine (util_Period.calls k 1000 1 t150 false _ A7.out).mono ?_); rintro e w114 ⟨rfl, hb⟩; refine ⟨_, rfl, ?_⟩; have n0_ := Aside0.mk (below_step (by repeat (first | (with_reducible first | exact HB.out | apply below_alloc | apply pw_below_drewN | apply below_drew1) | exact HB.out)) hb); clear HB; have HB := n0_; clear n0_; (try clear hb); (try clear hb2); (try clear hk); (try clear hi)) | ((with_reducible refine gate_callee (f := 12) rfl ?_); refine goesL_ (some 42) rfl rfl Tryd.func12 (by kernel_rfl) rfl #[.slice none 0 0] rfl (by (try simp only [List.map_toArray, List.map_cons, List.map_nil]); first | done | rfl | (simp only [List.length_drop, List.length_take]; rfl)) ?_; (refine (util_Sum.calls k _ _ ([] : List Int) t152 true _ ?side1 ?side2 A8.out).mono ?_); (case side1 => exact Kd.C_nil _ _); (case side2 => exact Nat.le_refl _); rintro e w' ⟨rfl, ⟨nd, rfl⟩⟩; refine ⟨_, rfl, ?_⟩) | ((with_reducible refine gate_dst (N := 46) rfl ?_); refine Kd.R_lit (Kd.int .i64) _ 2 ?hg (N := 46) ?hd (xs := ([1, (-1)] : List Int)) (inner := [.int .i64 1, .int .i64 (-1)]) (ok := fun _ => True) (okp := fun _ => True) ?hr ?hp (fun _ hk => hk) trivial (Below.refl _ _) (Nat.le_refl _) (by simp) ?_; (case hd => rfl); (case hg => rfl); (case hr => first | (go_simp; done) | (go_simp; rfl)); (case hp => exact (Reps.one (show Kd.M (Kd.int .i64) _ _ _ 1 [.int .i64 1] from rfl) (Reps.one (show Kd.M (Kd.int .i64) _ _ _ (-1) [.int .i64 (-1)] from rfl) (Reps.none _ _)))); intro v155 w115 ho116 hb hg_ hnew_; clear hg_ hnew_; (first | rw [← Ny154.out] at ho116 | (simp only [Int.reduceToNat] at ho116; rw [← Ny154.out] at ho116)); have n0_ := Aside0.mk (Kd.R_lower ho116 (below_size (by repeat (first | (with_reducible first | exact HB.out | apply below_alloc | apply pw_below_drewN | apply below_drew1) | exact HB.out)))); have n1_ := Aside0.mk (below_step (by repeat (first | (with_reducible first | exact HB.out | apply below_alloc | apply pw_below_drewN | apply below_drew1) | exact HB.out)) hb); clear HB; have HO156 := n0_; have HB := n1_; clear n0_ n1_; clear hb ho116; obtain ⟨Ao117, co117, eo117⟩ := Kd.R_slice HO156.out; subst eo117) | ((with_reducible refine gate_callee (f := 12) rfl ?_); refine goesL_ (some 47) rfl rfl Tryd.func12 (by kernel_rfl) rfl #[.slice Ao117 y154.length co117] rfl (by (try simp only [List.map_toArray, List.map_cons, List.map_nil]); first | done | rfl | (simp only [List.length_drop, List.length_take]; rfl)) ?_; (with_reducible refine (util_Sum.calls k _ _ y154 t157 false _ ?side1 ?side2 A9.out).mono ?_); (case side1 => repeat (first | exact (Kd.R_reads' HO156.out).2.2 | (with_reducible refine Kd.C_alloc ?_ _) | (with_reducible refine Kd.C_drewN ?_ _) | (with_reducible refine Kd.C_drew ?_))); (case side2 => exact (Kd.R_reads' HO156.out).2.1); rintro e w' ⟨rfl, ⟨nd, rfl⟩⟩; refine ⟨_, rfl, ?_⟩) | ((with_reducible refine gate_dst (N := 51) rfl ?_); refine Kd.R_lit (Kd.int .i64) _ 2 ?hg (N := 51) ?hd (xs := ([4611686018427387904, 4611686018427387904] : List Int)) (inner := [.int .i64 4611686018427387904, .int .i64 4611686018427387904]) (ok := fun _ => True) (okp := fun _ => True) ?hr ?hp (fun _ hk => hk) trivial (Below.refl _ _) (Nat.le_refl _) (by simp) ?_; (case hd => rfl); (case hg => rfl); (case hr => first | (go_simp; done) | (go_simp; rfl)); (case hp => exact (Reps.one (show Kd.M (Kd.int .i64) _ _ _ 4611686018427387904 [.int .i64 4611686018427387904] from rfl) (Reps.one (show Kd.M (Kd.int .i64) _ _ _ 4611686018427387904 [.int .i64 4611686018427387904] from rfl) (Reps.none _ _)))); intro v160 w118 ho119 hb hg_ hnew_; clear hg_ hnew_; (first | rw [← Ny159.out] at ho119 | (simp only [Int.reduceToNat] at ho119; rw [← Ny159.out] at ho119)); have n0_ := Aside0.mk (Kd.R_elder' (by (with_reducible repeat (first | apply Kd.R_alloc | apply Kd.R_drewN | apply Kd.R_drew)); exact HO156.out) (Kd.R_base ho119) hb); have n1_ := Aside0.mk (Kd.R_lower (Kd.R_new' ho119 (Kd.R_lt (by (with_reducible repeat (first | apply Kd.R_alloc | apply Kd.R_drewN | apply Kd.R_drew)); exact HO156.out))) (below_size (by repeat (first | (with_reducible first | exact HB.out | apply below_alloc | apply pw_below_drewN | apply below_drew1) | exact HB.out)))); have n2_ := Aside0.mk (below_step (by repeat (first | (with_reducible first | exact HB.out | apply below_alloc | apply pw_below_drewN | apply below_drew1) | exact HB.out)) hb); clear HO156; clear HB; have HO156 := n0_; have HO161 := n1_; have HB := n2_; clear n0_ n1_ n2_; clear hb ho119; obtain ⟨Ao120, co120, eo120⟩ := Kd.R_slice HO161.out; subst eo120) | ((with_reducible refine gate_callee (f := 12) rfl ?_); refine goesL_ (some 52) rfl rfl Tryd.func12 (by kernel_rfl) rfl #[.slice Ao120 y159.length co120] rfl (by (try simp only [List.map_toArray, List.map_cons, List.map_nil]); first | done | rfl | (simp only [List.length_drop, List.length_take]; rfl)) ?_; (with_reducible refine (util_Sum.calls k _ _ y159 t162 false _ ?side1 ?side2 A10.out).mono ?_); (case side1 => repeat (first | exact (Kd.R_reads' HO161.out).2.2 | (with_reducible refine Kd.C_alloc ?_ _) | (with_reducible refine Kd.C_drewN ?_ _) | (with_reducible refine Kd.C_drew ?_))); (case side2 => exact (Kd.R_reads' HO161.out).2.1); rintro e w' ⟨rfl, ⟨nd, rfl⟩⟩; refine ⟨_, rfl, ?_⟩) | ((with_reducible refine gate_callee (f := 9) rfl ?_); refine goesL_ (some 56) rfl rfl Tryd.func9 (by kernel_rfl) rfl #[.int .i64 1, .int .i64 4611686018427387904] rfl (by (try simp only [List.map_toArray, List.map_cons, List.map_nil]); first | done | rfl | (simp only [List.length_drop, List.length_take]; rfl)) ?_; (with_reducible refine (util_Period.calls k 1 4611686018427387904 t164 true _ A11.out).mono ?_); rintro e w121 ⟨rfl, hb⟩; refine ⟨_, rfl, ?_⟩; have n0_ := Aside0.mk (Kd.R_below (by (with_reducible repeat (first | apply Kd.R_alloc | apply Kd.R_drewN | apply Kd.R_drew)); exact HO156.out) hb); have n1_ := Aside0.mk (Kd.R_below (by (with_reducible repeat (first | apply Kd.R_alloc | apply Kd.R_drewN | apply Kd.R_drew)); exact HO161.out) hb); have n2_ := Aside0.mk (below_step (by repeat (first | (with_reducible first | exact HB.out | apply below_alloc | apply pw_below_drewN | apply below_drew1) | exact HB.out)) hb); clear HO156; clear HO161; clear HB; have HO156 := n0_; have HO161 := n1_; have HB := n2_; clear n0_ n1_ n2_; (try clear hb); (try clear hb2); (try clear hk); (try clear hi)) | (go_at_call 11; (with_reducible refine (util_Text.calls 0 t166 _ (tab_below HTb.out (by repeat (first | (with_reducible first | exact HB.out | apply below_alloc | apply pw_below_drewN | apply below_drew1) | exact HB.out))) A102.out).mono ?_); rintro e w122 ⟨rfl, hb⟩; have n0_ := Aside0.mk (Kd.R_below (by (with_reducible repeat (first | apply Kd.R_alloc | apply Kd.R_drewN | apply Kd.R_drew)); exact HO156.out) hb); have n1_ := Aside0.mk (Kd.R_below (by (with_reducible repeat (first | apply Kd.R_alloc | apply Kd.R_drewN | apply Kd.R_drew)); exact HO161.out) hb); have n2_ := Aside0.mk (below_step (by repeat (first | (with_reducible first | exact HB.out | apply below_alloc | apply pw_below_drewN | apply below_drew1) | exact HB.out)) hb); clear HO156; clear HO161; clear HB; have HO156 := n0_; have HO161 := n1_; have HB := n2_; clear n0_ n1_ n2_; (try clear hb); (try clear hb2); (try clear hk); (try clear hi)) | (go_at_call 11; (with_reducible refine (util_Text.calls (-1048576) t167 _ (tab_below HTb.out (by repeat (first | (with_reducible first | exact HB.out | apply below_alloc | apply pw_below_drewN | apply below_drew1) | exact HB.out))) A104.out).mono ?_); rintro e w123 ⟨rfl, hb⟩; have n0_ := Aside0.mk (Kd.R_below (by (with_reducible repeat (first | apply Kd.R_alloc | apply Kd.R_drewN | apply Kd.R_drew)); exact HO156.out) hb); have n1_ := Aside0.mk (Kd.R_below (by (with_reducible repeat (first | apply Kd.R_alloc | apply Kd.R_drewN | apply Kd.R_drew)); exact HO161.out) hb); have n2_ := Aside0.mk (below_step (by repeat (first | (with_reducible first | exact HB.out | apply below_alloc | apply pw_below_drewN | apply below_drew1) | exact HB.out)) hb); clear HO156; clear HO161; clear HB; have HO156 := n0_; have HO161 := n1_; have HB := n2_; clear n0_ n1_ n2_; (try clear hb); (try clear hb2); (try clear hk); (try clear hi)) | (go_at_call 11; (with_reducible refine (util_Text.calls 1 t168 _ (tab_below HTb.out (by repeat (first | (with_reducible first | exact HB.out | apply below_alloc | apply pw_below_drewN | apply below_drew1) | exact HB.out))) A106.out).mono ?_); rintro e w124 ⟨rfl, hb⟩; have n0_ := Aside0.mk (Kd.R_below (by (with_reducible repeat (first | apply Kd.R_alloc | apply Kd.R_drewN | apply Kd.R_drew)); exact HO156.out) hb); have n1_ := Aside0.mk (Kd.R_below (by (with_reducible repeat (first | apply Kd.R_alloc | apply Kd.R_drewN | apply Kd.R_drew)); exact HO161.out) hb); have n2_ := Aside0.mk (below_step (by repeat (first | (with_reducible first | exact HB.out | apply below_alloc | apply pw_below_drewN | apply below_drew1) | exact HB.out)) hb); clear HO156; clear HO161; clear HB; have HO156 := n0_; have HO161 := n1_; have HB := n2_; clear n0_ n1_ n2_; (try clear hb); (try clear hb2); (try clear hk); (try clear hi)) | (go_at_call 11; (with_reducible refine (util_Text.calls 3407872 t169 _ (tab_below HTb.out (by repeat (first | (with_reducible first | exact HB.out | apply below_alloc | apply pw_below_drewN | apply below_drew1) | exact HB.out))) A108.out).mono ?_); rintro e w125 ⟨rfl, hb⟩; have n0_ := Aside0.mk (Kd.R_below (by (with_reducible repeat (first | apply Kd.R_alloc | apply Kd.R_drewN | apply Kd.R_drew)); exact HO156.out) hb); have n1_ := Aside0.mk (Kd.R_below (by (with_reducible repeat (first | apply Kd.R_alloc | apply Kd.R_drewN | apply Kd.R_drew)); exact HO161.out) hb); have n2_ := Aside0.mk (below_step (by repeat (first | (with_reducible first | exact HB.out | apply below_alloc | apply pw_below_drewN | apply below_drew1) | exact HB.out)) hb); clear HO156; clear HO161; clear HB; have HO156 := n0_; have HO161 := n1_; have HB := n2_; clear n0_ n1_ n2_; (try clear hb); (try clear hb2); (try clear hk); (try clear hi)))
                                  go_ret
                                  exact ⟨by first | rfl | (simp [errW_none, errW_some] <;> rfl) | (simp [*, errW_none, errW_some] <;> rfl), by repeat (first | (with_reducible first | exact HB.out | apply below_alloc | apply pw_below_drewN | apply below_drew1) | exact HB.out)⟩
                                · rw [if_neg c107] at H
                                  have c107b0 : (t168.toList == ([48, 46, 48, 48, 48] : List UInt8)) = false := beq_eq_false_iff_ne.mpr c107
                                  have c107b1 : (t168.toList != ([48, 46, 48, 48, 48] : List UInt8)) = true := bne_iff_ne.mpr c107
                                  obtain rfl := Option.some.inj H
                                  exact absurd hr_ (by decide)
                              · rw [if_neg c105] at H
                                have c105b0 : (t167.toList == ([45, 49, 46, 48, 48, 48] : List UInt8)) = false := beq_eq_false_iff_ne.mpr c105
                                have c105b1 : (t167.toList != ([45, 49, 46, 48, 48, 48] : List UInt8)) = true := bne_iff_ne.mpr c105
                                obtain rfl := Option.some.inj H
                                exact absurd hr_ (by decide)
                            · rw [if_neg c103] at H
                              have c103b0 : (t166.toList == ([48, 46, 48, 48, 48] : List UInt8)) = false := beq_eq_false_iff_ne.mpr c103
                              have c103b1 : (t166.toList != ([48, 46, 48, 48, 48] : List UInt8)) = true := bne_iff_ne.mpr c103
                              obtain rfl := Option.some.inj H
                              exact absurd hr_ (by decide)
                          · rw [if_neg c101] at H
                            have c101b0 : (t164 == 1) = false := beq_eq_false_iff_ne.mpr c101
                            have c101b1 : (t164 != 1) = true := bne_iff_ne.mpr c101
                            obtain rfl := Option.some.inj H
                            exact absurd hr_ (by decide)
                        · replace c100 := Bool.eq_false_iff.mpr c100
                          subst c100
                          have H1 : (some false) = some r := by rw [if_neg (show ¬ (false = true) by decide)] at H; exact H
                          clear H
                          have H := H1
                          clear H1
                          obtain rfl := Option.some.inj H
                          exact absurd hr_ (by decide)
                  · rw [if_neg c71] at H
                    have c71b0 : (t152 == 0) = false := beq_eq_false_iff_ne.mpr c71
                    have c71b1 : (t152 != 0) = true := bne_iff_ne.mpr c71
                    obtain rfl := Option.some.inj H
                    exact absurd hr_ (by decide)
                · replace c70 := Bool.eq_false_iff.mpr c70
                  subst c70
                  have H1 : (some false) = some r := by rw [if_neg (show ¬ (false = true) by decide)] at H; exact H
                  clear H
                  have H := H1
                  clear H1
                  obtain rfl := Option.some.inj H
                  exact absurd hr_ (by decide)
          · rw [if_neg c41] at H
            have c41b0 : (t146 == 1048576000) = false := beq_eq_false_iff_ne.mpr c41
            have c41b1 : (t146 != 1048576000) = true := bne_iff_ne.mpr c41
            obtain rfl := Option.some.inj H
            exact absurd hr_ (by decide)
        · replace c40 := Bool.eq_false_iff.mpr c40
          subst c40
          have H1 : (some false) = some r := by rw [if_neg (show ¬ (false = true) by decide)] at H; exact H
          clear H
          have H := H1
          clear H1
          obtain rfl := Option.some.inj H
          exact absurd hr_ (by decide)
  · replace c2 := Bool.eq_false_iff.mpr c2
    subst c2
    have H1 : (some false) = some r := by rw [if_neg (show ¬ (false = true) by decide)] at H; exact H
    clear H
    have H := H1
    clear H1
    obtain rfl := Option.some.inj H
    exact absurd hr_ (by decide)


/-! ### tocsinref1_size: function 30 -/
def tocsinref1_size.f (a0 : Int) : Option (Int) := if a0 < 0 then (some (IntKind.u64.wrap (wrap64 (-a0)))) else (some (IntKind.u64.wrap (a0)))
set_option maxHeartbeats 8000000 in
set_option maxRecDepth 100000 in
theorem tocsinref1_size.calls (a0 : Int) (r : Int) (w : World) (h : tocsinref1_size.f a0 = some r) :
    Calls Tryd.prog 30 #[.int .i64 a0] w fun e w' => e = .returned (.int .u64 r) ∧ Drawn0 w w' := by
  have H : (if a0 < 0 then (some (IntKind.u64.wrap (wrap64 (-a0)))) else (some (IntKind.u64.wrap (a0)))) = some r := h
  clear h
  by_cases c2 : a0 < 0
  · rw [if_pos c2] at H
    have c2b0 : decide (a0 < 0) = true := decide_eq_true c2
    clear c2
    obtain rfl := Option.some.inj H
    go_enter Tryd.func30, Tryd.ntmps30
    go_wp2
    go_ret
    exact ⟨by first | rfl | (simp; done) | (simp [*]; done), by repeat (first | exact Drawn0.refl _ | apply Drawn0.step)⟩
  · rw [if_neg c2] at H
    have c2b0 : decide (a0 < 0) = false := decide_eq_false c2
    clear c2
    obtain rfl := Option.some.inj H
    go_enter Tryd.func30, Tryd.ntmps30
    go_wp2
    go_ret
    exact ⟨by first | rfl | (simp; done) | (simp [*]; done), by repeat (first | exact Drawn0.refl _ | apply Drawn0.step)⟩

/-! ### tocsinref1_mul: function 48 -/
def tocsinref1_mul.f (a0 : Int) (a1 : Int) : Option (Int × Int) := some (IntKind.u64.wrap ((IntKind.u64.wrap ((IntKind.u64.wrap ((a0 / 4294967296) * (a1 / 4294967296))) + ((IntKind.u64.wrap ((IntKind.u64.wrap ((a0 / 4294967296) * (Go.bits .and .u64 a1 4294967295))) + ((IntKind.u64.wrap ((Go.bits .and .u64 a0 4294967295) * (Go.bits .and .u64 a1 4294967295))) / 4294967296))) / 4294967296))) + ((IntKind.u64.wrap ((Go.bits .and .u64 (IntKind.u64.wrap ((IntKind.u64.wrap ((a0 / 4294967296) * (Go.bits .and .u64 a1 4294967295))) + ((IntKind.u64.wrap ((Go.bits .and .u64 a0 4294967295) * (Go.bits .and .u64 a1 4294967295))) / 4294967296))) 4294967295) + (IntKind.u64.wrap ((Go.bits .and .u64 a0 4294967295) * (a1 / 4294967296))))) / 4294967296)), Go.bits .or .u64 (IntKind.u64.wrap ((IntKind.u64.wrap ((Go.bits .and .u64 (IntKind.u64.wrap ((IntKind.u64.wrap ((a0 / 4294967296) * (Go.bits .and .u64 a1 4294967295))) + ((IntKind.u64.wrap ((Go.bits .and .u64 a0 4294967295) * (Go.bits .and .u64 a1 4294967295))) / 4294967296))) 4294967295) + (IntKind.u64.wrap ((Go.bits .and .u64 a0 4294967295) * (a1 / 4294967296))))) * 4294967296)) (Go.bits .and .u64 (IntKind.u64.wrap ((Go.bits .and .u64 a0 4294967295) * (Go.bits .and .u64 a1 4294967295))) 4294967295))
set_option maxHeartbeats 8000000 in
set_option maxRecDepth 100000 in
theorem tocsinref1_mul.calls (a0 : Int) (a1 : Int) (r1 : Int) (r2 : Int) (w : World) (h : tocsinref1_mul.f a0 a1 = some (r1, r2)) :
    Calls Tryd.prog 48 #[.int .u64 a0, .int .u64 a1] w fun e w' => e = .returned (.tuple #[.int .u64 r1, .int .u64 r2]) ∧ Drawn0 w w' := by
  have H : (some (IntKind.u64.wrap ((IntKind.u64.wrap ((IntKind.u64.wrap ((a0 / 4294967296) * (a1 / 4294967296))) + ((IntKind.u64.wrap ((IntKind.u64.wrap ((a0 / 4294967296) * (Go.bits .and .u64 a1 4294967295))) + ((IntKind.u64.wrap ((Go.bits .and .u64 a0 4294967295) * (Go.bits .and .u64 a1 4294967295))) / 4294967296))) / 4294967296))) + ((IntKind.u64.wrap ((Go.bits .and .u64 (IntKind.u64.wrap ((IntKind.u64.wrap ((a0 / 4294967296) * (Go.bits .and .u64 a1 4294967295))) + ((IntKind.u64.wrap ((Go.bits .and .u64 a0 4294967295) * (Go.bits .and .u64 a1 4294967295))) / 4294967296))) 4294967295) + (IntKind.u64.wrap ((Go.bits .and .u64 a0 4294967295) * (a1 / 4294967296))))) / 4294967296)), Go.bits .or .u64 (IntKind.u64.wrap ((IntKind.u64.wrap ((Go.bits .and .u64 (IntKind.u64.wrap ((IntKind.u64.wrap ((a0 / 4294967296) * (Go.bits .and .u64 a1 4294967295))) + ((IntKind.u64.wrap ((Go.bits .and .u64 a0 4294967295) * (Go.bits .and .u64 a1 4294967295))) / 4294967296))) 4294967295) + (IntKind.u64.wrap ((Go.bits .and .u64 a0 4294967295) * (a1 / 4294967296))))) * 4294967296)) (Go.bits .and .u64 (IntKind.u64.wrap ((Go.bits .and .u64 a0 4294967295) * (Go.bits .and .u64 a1 4294967295))) 4294967295))) = some (r1, r2) := h
  clear h
  simp only [Option.some.injEq, Prod.mk.injEq] at H
  obtain ⟨rfl, rfl⟩ := H
  go_enter Tryd.func48, Tryd.ntmps48
  go_wp2
  go_ret2
  exact ⟨by first | rfl | (simp; done) | (simp [*]; done), by repeat (first | exact Drawn0.refl _ | apply Drawn0.step)⟩

/-! ### tocsinref1_times: function 37 -/
def tocsinref1_times.f (a0 : Int) (a1 : Int) : Option (Bool × Int × Int) := (tocsinref1_size.f a0).bind fun t171 => ((tocsinref1_size.f a1).bind fun t172 => ((tocsinref1_mul.f t171 t172).bind fun bt173 => (if ((decide (a0 < 0)) != (decide (a1 < 0))) = true then (if bt173.1 = 0 then (some ((bt173.2 != 0), bt173.1, bt173.2)) else (some (true, bt173.1, bt173.2))) else (some (false, bt173.1, bt173.2)))))
set_option maxHeartbeats 8000000 in
set_option maxRecDepth 100000 in
theorem tocsinref1_times.calls (a0 : Int) (a1 : Int) (r1 : Bool) (r2 : Int) (r3 : Int) (w : World) (h : tocsinref1_times.f a0 a1 = some (r1, r2, r3)) :
    Calls Tryd.prog 37 #[.int .i64 a0, .int .i64 a1] w fun e w' => e = .returned (.agg #[.bool r1, .int .u64 r2, .int .u64 r3]) ∧ Below w.heap.size w w' := by
  have hu60 := Tryd.underlying60
  have HB := Aside0.mk (Below.refl w.heap.size w)
  have H : ((tocsinref1_size.f a0).bind fun t171 => ((tocsinref1_size.f a1).bind fun t172 => ((tocsinref1_mul.f t171 t172).bind fun bt173 => (if ((decide (a0 < 0)) != (decide (a1 < 0))) = true then (if bt173.1 = 0 then (some ((bt173.2 != 0), bt173.1, bt173.2)) else (some (true, bt173.1, bt173.2))) else (some (false, bt173.1, bt173.2)))))) = some (r1, r2, r3) := h
  clear h
  replace H := Option.bind_eq_some_iff.mp H
  obtain ⟨t171, A30, H⟩ := H
  replace H : ((tocsinref1_size.f a1).bind fun t172 => ((tocsinref1_mul.f t171 t172).bind fun bt173 => (if ((decide (a0 < 0)) != (decide (a1 < 0))) = true then (if bt173.1 = 0 then (some ((bt173.2 != 0), bt173.1, bt173.2)) else (some (true, bt173.1, bt173.2))) else (some (false, bt173.1, bt173.2))))) = some (r1, r2, r3) := H
  have A3 := Aside0.mk A30
  clear A30
  replace H := Option.bind_eq_some_iff.mp H
  obtain ⟨t172, A40, H⟩ := H
  replace H : ((tocsinref1_mul.f t171 t172).bind fun bt173 => (if ((decide (a0 < 0)) != (decide (a1 < 0))) = true then (if bt173.1 = 0 then (some ((bt173.2 != 0), bt173.1, bt173.2)) else (some (true, bt173.1, bt173.2))) else (some (false, bt173.1, bt173.2)))) = some (r1, r2, r3) := H
  have A4 := Aside0.mk A40
  clear A40
  replace H := Option.bind_eq_some_iff.mp H
  obtain ⟨⟨t173, t174⟩, A50, H⟩ := H
  replace H : (if ((decide (a0 < 0)) != (decide (a1 < 0))) = true then (if t173 = 0 then (some ((t174 != 0), t173, t174)) else (some (true, t173, t174))) else (some (false, t173, t174))) = some (r1, r2, r3) := H
  have A5 := Aside0.mk A50
  clear A50
  by_cases c6 : ((decide (a0 < 0)) != (decide (a1 < 0))) = true
  · rw [if_pos c6] at H
    have c6b0 : ((decide (a0 < 0)) != (decide (a1 < 0))) = true := c6
    (try (have c6b1 : decide ((decide (a0 < 0)) = (decide (a1 < 0))) = false := by simpa using c6))
    (try (have c6b2 : ((decide (a0 < 0)) == (decide (a1 < 0))) = false := by simpa using c6))
    (try (have c6b3 : ¬ ((decide (a0 < 0)) = (decide (a1 < 0))) := by simpa using c6))
    clear c6
    by_cases c7 : t173 = 0
    · rw [if_pos c7] at H
      have c7b0 : (t173 == 0) = true := beq_iff_eq.mpr c7
      have c7b1 : (t173 != 0) = false := bne_eq_false_iff_eq.mpr c7
      clear c7
      simp only [Option.some.injEq, Prod.mk.injEq] at H
      obtain ⟨rfl, rfl, rfl⟩ := H
      go_enter Tryd.func37, Tryd.ntmps37
      go_wp2_with (first | ((with_reducible refine gate_dst (N := 4) rfl ?_); refine box_event ?hg (N := 4) ?hd (cs := #[.bool false, .int .u64 0, .int .u64 0]) (t := 60) ?hr ?_; (case hd => rfl); (case hg => rfl); (case hr => first | (go_simp; done) | (go_simp; rfl)); intro gb170 hg w8 hbox hb; have n0_ := Aside0.mk (below_step (by repeat (first | (with_reducible first | exact HB.out | apply below_alloc | apply pw_below_drewN | apply below_drew1) | exact HB.out)) hb); have n1_ := Aside0.mk (hbox); have n2_ := Aside0.mk ((by rw [hg]; exact (below_size (by repeat (first | (with_reducible first | exact HB.out | apply below_alloc | apply pw_below_drewN | apply below_drew1) | exact HB.out))) : w.heap.size ≤ gb170)); have n3_ := Aside0.mk ((by rw [hg]; exact (below_size (by repeat (first | (with_reducible first | exact HB.out | apply below_alloc | apply pw_below_drewN | apply below_drew1) | exact HB.out))) : w.heap.size ≤ gb170)); clear HB; have HB := n0_; have BK170 := n1_; have GW170 := n2_; have GE170 := n3_; clear n0_ n1_ n2_ n3_; clear hb hbox hg) | ((with_reducible refine gate_callee (f := 30) rfl ?_); refine goesL_ (some 9) rfl rfl Tryd.func30 (by kernel_rfl) rfl #[.int .i64 a0] rfl (by (try simp only [List.map_toArray, List.map_cons, List.map_nil]); first | done | rfl | (simp only [List.length_drop, List.length_take]; rfl)) ?_; (with_reducible refine (tocsinref1_size.calls a0 t171 _ A3.out).mono ?_); rintro e w' ⟨rfl, ⟨nd, rfl⟩⟩; refine ⟨_, rfl, ?_⟩; (try (rw [drewN_self w8]; generalize hq_ : World.drewN w8 _ = w8; have n0_ : Aside0 (w8.heap[gb170]? = some (.cells #[.bool false, .int .u64 0, .int .u64 0] 60 (0, 0))) := ⟨by rw [← hq_]; exact (by (with_reducible repeat (first | refine blk_drewN ?_ _ | refine blk_drew ?_ | refine blk_alloc ?_ _)); exact BK170.out)⟩; have n1_ : Aside0 (Below w.heap.size w w8) := ⟨by rw [← hq_]; exact (by repeat (first | (with_reducible first | exact HB.out | apply below_alloc | apply pw_below_drewN | apply below_drew1 | refine below_set ?_ GE170.out) | exact HB.out))⟩; clear BK170 HB hq_; have BK170 := n0_; have HB := n1_; clear n0_ n1_))) | ((with_reducible refine gate_callee (f := 30) rfl ?_); refine goesL_ (some 11) rfl rfl Tryd.func30 (by kernel_rfl) rfl #[.int .i64 a1] rfl (by (try simp only [List.map_toArray, List.map_cons, List.map_nil]); first | done | rfl | (simp only [List.length_drop, List.length_take]; rfl)) ?_; (with_reducible refine (tocsinref1_size.calls a1 t172 _ A4.out).mono ?_); rintro e w' ⟨rfl, ⟨nd, rfl⟩⟩; refine ⟨_, rfl, ?_⟩; (try (rw [drewN_self w8]; generalize hq_ : World.drewN w8 _ = w8; have n0_ : Aside0 (w8.heap[gb170]? = some (.cells #[.bool false, .int .u64 0, .int .u64 0] 60 (0, 0))) := ⟨by rw [← hq_]; exact (by (with_reducible repeat (first | refine blk_drewN ?_ _ | refine blk_drew ?_ | refine blk_alloc ?_ _)); exact BK170.out)⟩; have n1_ : Aside0 (Below w.heap.size w w8) := ⟨by rw [← hq_]; exact (by repeat (first | (with_reducible first | exact HB.out | apply below_alloc | apply pw_below_drewN | apply below_drew1 | refine below_set ?_ GE170.out) | exact HB.out))⟩; clear BK170 HB hq_; have BK170 := n0_; have HB := n1_; clear n0_ n1_))) | ((with_reducible refine gate_callee (f := 48) rfl ?_); refine goesL_ (some 12) rfl rfl Tryd.func48 (by kernel_rfl) rfl #[.int .u64 t171, .int .u64 t172] rfl (by (try simp only [List.map_toArray, List.map_cons, List.map_nil]); first | done | rfl | (simp only [List.length_drop, List.length_take]; rfl)) ?_; (with_reducible refine (tocsinref1_mul.calls t171 t172 t173 t174 _ A5.out).mono ?_); rintro e w' ⟨rfl, ⟨nd, rfl⟩⟩; refine ⟨_, rfl, ?_⟩; (try (rw [drewN_self w8]; generalize hq_ : World.drewN w8 _ = w8; have n0_ : Aside0 (w8.heap[gb170]? = some (.cells #[.bool false, .int .u64 0, .int .u64 0] 60 (0, 0))) := ⟨by rw [← hq_]; exact (by (with_reducible repeat (first | refine blk_drewN ?_ _ | refine blk_drew ?_ | refine blk_alloc ?_ _)); exact BK170.out)⟩; have n1_ : Aside0 (Below w.heap.size w w8) := ⟨by rw [← hq_]; exact (by repeat (first | (with_reducible first | exact HB.out | apply below_alloc | apply pw_below_drewN | apply below_drew1 | refine below_set ?_ GE170.out) | exact HB.out))⟩; clear BK170 HB hq_; have BK170 := n0_; have HB := n1_; clear n0_ n1_)); have hcz9_0 : w8.cell? ⟨gb170, 0, none⟩ = some (.bool false) := (blk_cell BK170.out 0).trans rfl; have hcz9_1 : w8.cell? ⟨gb170, 1, none⟩ = some (.int .u64 0) := (blk_cell BK170.out 1).trans rfl; have hcz9_2 : w8.cell? ⟨gb170, 2, none⟩ = some (.int .u64 0) := (blk_cell BK170.out 2).trans rfl; have hfz9_0 := blk_frozen BK170.out 0; have hfz9_1 := blk_frozen BK170.out 1; have hfz9_2 := blk_frozen BK170.out 2))
      refine bodyPost_ret (results_cell_row rfl _ _ gb170 60 #[.bool (t174 != 0), .int .u64 t173, .int .u64 t174] (0, 0) _ rfl (by (with_reducible repeat (first | refine blk_drewN ?_ _ | refine blk_drew ?_ | refine blk_alloc ?_ _)); refine blk_put (cs := #[.bool (t174 != 0), .int .u64 t173, .int .u64 0]) ?_ 2 _ rfl; (with_reducible repeat (first | refine blk_drewN ?_ _ | refine blk_drew ?_ | refine blk_alloc ?_ _)); refine blk_put (cs := #[.bool (t174 != 0), .int .u64 0, .int .u64 0]) ?_ 1 _ rfl; (with_reducible repeat (first | refine blk_drewN ?_ _ | refine blk_drew ?_ | refine blk_alloc ?_ _)); refine blk_put (cs := #[.bool false, .int .u64 0, .int .u64 0]) ?_ 0 _ rfl; (with_reducible repeat (first | refine blk_drewN ?_ _ | refine blk_drew ?_ | refine blk_alloc ?_ _)); exact BK170.out) Tryd.underlying60 rfl (by kernel_rfl)) rfl ?_
      exact ⟨by first | rfl | (simp [errW_none, errW_some] <;> rfl) | (simp [*, errW_none, errW_some] <;> rfl), by repeat (first | (with_reducible first | exact HB.out | apply below_alloc | apply pw_below_drewN | apply below_drew1 | refine below_set ?_ GE170.out) | exact HB.out)⟩
    · rw [if_neg c7] at H
      have c7b0 : (t173 == 0) = false := beq_eq_false_iff_ne.mpr c7
      have c7b1 : (t173 != 0) = true := bne_iff_ne.mpr c7
      simp only [Option.some.injEq, Prod.mk.injEq] at H
      obtain ⟨rfl, rfl, rfl⟩ := H
      go_enter Tryd.func37, Tryd.ntmps37
      go_wp2_with (first | ((with_reducible refine gate_dst (N := 4) rfl ?_); refine box_event ?hg (N := 4) ?hd (cs := #[.bool false, .int .u64 0, .int .u64 0]) (t := 60) ?hr ?_; (case hd => rfl); (case hg => rfl); (case hr => first | (go_simp; done) | (go_simp; rfl)); intro gb170 hg w10 hbox hb; have n0_ := Aside0.mk (below_step (by repeat (first | (with_reducible first | exact HB.out | apply below_alloc | apply pw_below_drewN | apply below_drew1) | exact HB.out)) hb); have n1_ := Aside0.mk (hbox); have n2_ := Aside0.mk ((by rw [hg]; exact (below_size (by repeat (first | (with_reducible first | exact HB.out | apply below_alloc | apply pw_below_drewN | apply below_drew1) | exact HB.out))) : w.heap.size ≤ gb170)); have n3_ := Aside0.mk ((by rw [hg]; exact (below_size (by repeat (first | (with_reducible first | exact HB.out | apply below_alloc | apply pw_below_drewN | apply below_drew1) | exact HB.out))) : w.heap.size ≤ gb170)); clear HB; have HB := n0_; have BK170 := n1_; have GW170 := n2_; have GE170 := n3_; clear n0_ n1_ n2_ n3_; clear hb hbox hg) | ((with_reducible refine gate_callee (f := 30) rfl ?_); refine goesL_ (some 9) rfl rfl Tryd.func30 (by kernel_rfl) rfl #[.int .i64 a0] rfl (by (try simp only [List.map_toArray, List.map_cons, List.map_nil]); first | done | rfl | (simp only [List.length_drop, List.length_take]; rfl)) ?_; (with_reducible refine (tocsinref1_size.calls a0 t171 _ A3.out).mono ?_); rintro e w' ⟨rfl, ⟨nd, rfl⟩⟩; refine ⟨_, rfl, ?_⟩; (try (rw [drewN_self w10]; generalize hq_ : World.drewN w10 _ = w10; have n0_ : Aside0 (w10.heap[gb170]? = some (.cells #[.bool false, .int .u64 0, .int .u64 0] 60 (0, 0))) := ⟨by rw [← hq_]; exact (by (with_reducible repeat (first | refine blk_drewN ?_ _ | refine blk_drew ?_ | refine blk_alloc ?_ _)); exact BK170.out)⟩; have n1_ : Aside0 (Below w.heap.size w w10) := ⟨by rw [← hq_]; exact (by repeat (first | (with_reducible first | exact HB.out | apply below_alloc | apply pw_below_drewN | apply below_drew1 | refine below_set ?_ GE170.out) | exact HB.out))⟩; clear BK170 HB hq_; have BK170 := n0_; have HB := n1_; clear n0_ n1_))) | ((with_reducible refine gate_callee (f := 30) rfl ?_); refine goesL_ (some 11) rfl rfl Tryd.func30 (by kernel_rfl) rfl #[.int .i64 a1] rfl (by (try simp only [List.map_toArray, List.map_cons, List.map_nil]); first | done | rfl | (simp only [List.length_drop, List.length_take]; rfl)) ?_; (with_reducible refine (tocsinref1_size.calls a1 t172 _ A4.out).mono ?_); rintro e w' ⟨rfl, ⟨nd, rfl⟩⟩; refine ⟨_, rfl, ?_⟩; (try (rw [drewN_self w10]; generalize hq_ : World.drewN w10 _ = w10; have n0_ : Aside0 (w10.heap[gb170]? = some (.cells #[.bool false, .int .u64 0, .int .u64 0] 60 (0, 0))) := ⟨by rw [← hq_]; exact (by (with_reducible repeat (first | refine blk_drewN ?_ _ | refine blk_drew ?_ | refine blk_alloc ?_ _)); exact BK170.out)⟩; have n1_ : Aside0 (Below w.heap.size w w10) := ⟨by rw [← hq_]; exact (by repeat (first | (with_reducible first | exact HB.out | apply below_alloc | apply pw_below_drewN | apply below_drew1 | refine below_set ?_ GE170.out) | exact HB.out))⟩; clear BK170 HB hq_; have BK170 := n0_; have HB := n1_; clear n0_ n1_))) | ((with_reducible refine gate_callee (f := 48) rfl ?_); refine goesL_ (some 12) rfl rfl Tryd.func48 (by kernel_rfl) rfl #[.int .u64 t171, .int .u64 t172] rfl (by (try simp only [List.map_toArray, List.map_cons, List.map_nil]); first | done | rfl | (simp only [List.length_drop, List.length_take]; rfl)) ?_; (with_reducible refine (tocsinref1_mul.calls t171 t172 t173 t174 _ A5.out).mono ?_); rintro e w' ⟨rfl, ⟨nd, rfl⟩⟩; refine ⟨_, rfl, ?_⟩; (try (rw [drewN_self w10]; generalize hq_ : World.drewN w10 _ = w10; have n0_ : Aside0 (w10.heap[gb170]? = some (.cells #[.bool false, .int .u64 0, .int .u64 0] 60 (0, 0))) := ⟨by rw [← hq_]; exact (by (with_reducible repeat (first | refine blk_drewN ?_ _ | refine blk_drew ?_ | refine blk_alloc ?_ _)); exact BK170.out)⟩; have n1_ : Aside0 (Below w.heap.size w w10) := ⟨by rw [← hq_]; exact (by repeat (first | (with_reducible first | exact HB.out | apply below_alloc | apply pw_below_drewN | apply below_drew1 | refine below_set ?_ GE170.out) | exact HB.out))⟩; clear BK170 HB hq_; have BK170 := n0_; have HB := n1_; clear n0_ n1_)); have hcz11_0 : w10.cell? ⟨gb170, 0, none⟩ = some (.bool false) := (blk_cell BK170.out 0).trans rfl; have hcz11_1 : w10.cell? ⟨gb170, 1, none⟩ = some (.int .u64 0) := (blk_cell BK170.out 1).trans rfl; have hcz11_2 : w10.cell? ⟨gb170, 2, none⟩ = some (.int .u64 0) := (blk_cell BK170.out 2).trans rfl; have hfz11_0 := blk_frozen BK170.out 0; have hfz11_1 := blk_frozen BK170.out 1; have hfz11_2 := blk_frozen BK170.out 2))
      refine bodyPost_ret (results_cell_row rfl _ _ gb170 60 #[.bool true, .int .u64 t173, .int .u64 t174] (0, 0) _ rfl (by (with_reducible repeat (first | refine blk_drewN ?_ _ | refine blk_drew ?_ | refine blk_alloc ?_ _)); refine blk_put (cs := #[.bool true, .int .u64 t173, .int .u64 0]) ?_ 2 _ rfl; (with_reducible repeat (first | refine blk_drewN ?_ _ | refine blk_drew ?_ | refine blk_alloc ?_ _)); refine blk_put (cs := #[.bool true, .int .u64 0, .int .u64 0]) ?_ 1 _ rfl; (with_reducible repeat (first | refine blk_drewN ?_ _ | refine blk_drew ?_ | refine blk_alloc ?_ _)); refine blk_put (cs := #[.bool false, .int .u64 0, .int .u64 0]) ?_ 0 _ rfl; (with_reducible repeat (first | refine blk_drewN ?_ _ | refine blk_drew ?_ | refine blk_alloc ?_ _)); exact BK170.out) Tryd.underlying60 rfl (by kernel_rfl)) rfl ?_
      exact ⟨by first | rfl | (simp [errW_none, errW_some] <;> rfl) | (simp [*, errW_none, errW_some] <;> rfl), by repeat (first | (with_reducible first | exact HB.out | apply below_alloc | apply pw_below_drewN | apply below_drew1 | refine below_set ?_ GE170.out) | exact HB.out)⟩
  · rw [if_neg c6] at H
    have c6b0 : ((decide (a0 < 0)) != (decide (a1 < 0))) = false := by simpa using c6
    (try (have c6b1 : decide ((decide (a0 < 0)) = (decide (a1 < 0))) = true := by simpa using c6))
    (try (have c6b2 : ((decide (a0 < 0)) == (decide (a1 < 0))) = true := by simpa using c6))
    clear c6
    simp only [Option.some.injEq, Prod.mk.injEq] at H
    obtain ⟨rfl, rfl, rfl⟩ := H
    go_enter Tryd.func37, Tryd.ntmps37
    go_wp2_with (first | ((with_reducible refine gate_dst (N := 4) rfl ?_); refine box_event ?hg (N := 4) ?hd (cs := #[.bool false, .int .u64 0, .int .u64 0]) (t := 60) ?hr ?_; (case hd => rfl); (case hg => rfl); (case hr => first | (go_simp; done) | (go_simp; rfl)); intro gb170 hg w12 hbox hb; have n0_ := Aside0.mk (below_step (by repeat (first | (with_reducible first | exact HB.out | apply below_alloc | apply pw_below_drewN | apply below_drew1) | exact HB.out)) hb); have n1_ := Aside0.mk (hbox); have n2_ := Aside0.mk ((by rw [hg]; exact (below_size (by repeat (first | (with_reducible first | exact HB.out | apply below_alloc | apply pw_below_drewN | apply below_drew1) | exact HB.out))) : w.heap.size ≤ gb170)); have n3_ := Aside0.mk ((by rw [hg]; exact (below_size (by repeat (first | (with_reducible first | exact HB.out | apply below_alloc | apply pw_below_drewN | apply below_drew1) | exact HB.out))) : w.heap.size ≤ gb170)); clear HB; have HB := n0_; have BK170 := n1_; have GW170 := n2_; have GE170 := n3_; clear n0_ n1_ n2_ n3_; clear hb hbox hg) | ((with_reducible refine gate_callee (f := 30) rfl ?_); refine goesL_ (some 9) rfl rfl Tryd.func30 (by kernel_rfl) rfl #[.int .i64 a0] rfl (by (try simp only [List.map_toArray, List.map_cons, List.map_nil]); first | done | rfl | (simp only [List.length_drop, List.length_take]; rfl)) ?_; (with_reducible refine (tocsinref1_size.calls a0 t171 _ A3.out).mono ?_); rintro e w' ⟨rfl, ⟨nd, rfl⟩⟩; refine ⟨_, rfl, ?_⟩; (try (rw [drewN_self w12]; generalize hq_ : World.drewN w12 _ = w12; have n0_ : Aside0 (w12.heap[gb170]? = some (.cells #[.bool false, .int .u64 0, .int .u64 0] 60 (0, 0))) := ⟨by rw [← hq_]; exact (by (with_reducible repeat (first | refine blk_drewN ?_ _ | refine blk_drew ?_ | refine blk_alloc ?_ _)); exact BK170.out)⟩; have n1_ : Aside0 (Below w.heap.size w w12) := ⟨by rw [← hq_]; exact (by repeat (first | (with_reducible first | exact HB.out | apply below_alloc | apply pw_below_drewN | apply below_drew1 | refine below_set ?_ GE170.out) | exact HB.out))⟩; clear BK170 HB hq_; have BK170 := n0_; have HB := n1_; clear n0_ n1_))) | ((with_reducible refine gate_callee (f := 30) rfl ?_); refine goesL_ (some 11) rfl rfl Tryd.func30 (by kernel_rfl) rfl #[.int .i64 a1] rfl (by (try simp only [List.map_toArray, List.map_cons, List.map_nil]); first | done | rfl | (simp only [List.length_drop, List.length_take]; rfl)) ?_; (with_reducible refine (tocsinref1_size.calls a1 t172 _ A4.out).mono ?_); rintro e w' ⟨rfl, ⟨nd, rfl⟩⟩; refine ⟨_, rfl, ?_⟩; (try (rw [drewN_self w12]; generalize hq_ : World.drewN w12 _ = w12; have n0_ : Aside0 (w12.heap[gb170]? = some (.cells #[.bool false, .int .u64 0, .int .u64 0] 60 (0, 0))) := ⟨by rw [← hq_]; exact (by (with_reducible repeat (first | refine blk_drewN ?_ _ | refine blk_drew ?_ | refine blk_alloc ?_ _)); exact BK170.out)⟩; have n1_ : Aside0 (Below w.heap.size w w12) := ⟨by rw [← hq_]; exact (by repeat (first | (with_reducible first | exact HB.out | apply below_alloc | apply pw_below_drewN | apply below_drew1 | refine below_set ?_ GE170.out) | exact HB.out))⟩; clear BK170 HB hq_; have BK170 := n0_; have HB := n1_; clear n0_ n1_))) | ((with_reducible refine gate_callee (f := 48) rfl ?_); refine goesL_ (some 12) rfl rfl Tryd.func48 (by kernel_rfl) rfl #[.int .u64 t171, .int .u64 t172] rfl (by (try simp only [List.map_toArray, List.map_cons, List.map_nil]); first | done | rfl | (simp only [List.length_drop, List.length_take]; rfl)) ?_; (with_reducible refine (tocsinref1_mul.calls t171 t172 t173 t174 _ A5.out).mono ?_); rintro e w' ⟨rfl, ⟨nd, rfl⟩⟩; refine ⟨_, rfl, ?_⟩; (try (rw [drewN_self w12]; generalize hq_ : World.drewN w12 _ = w12; have n0_ : Aside0 (w12.heap[gb170]? = some (.cells #[.bool false, .int .u64 0, .int .u64 0] 60 (0, 0))) := ⟨by rw [← hq_]; exact (by (with_reducible repeat (first | refine blk_drewN ?_ _ | refine blk_drew ?_ | refine blk_alloc ?_ _)); exact BK170.out)⟩; have n1_ : Aside0 (Below w.heap.size w w12) := ⟨by rw [← hq_]; exact (by repeat (first | (with_reducible first | exact HB.out | apply below_alloc | apply pw_below_drewN | apply below_drew1 | refine below_set ?_ GE170.out) | exact HB.out))⟩; clear BK170 HB hq_; have BK170 := n0_; have HB := n1_; clear n0_ n1_)); have hcz13_0 : w12.cell? ⟨gb170, 0, none⟩ = some (.bool false) := (blk_cell BK170.out 0).trans rfl; have hcz13_1 : w12.cell? ⟨gb170, 1, none⟩ = some (.int .u64 0) := (blk_cell BK170.out 1).trans rfl; have hcz13_2 : w12.cell? ⟨gb170, 2, none⟩ = some (.int .u64 0) := (blk_cell BK170.out 2).trans rfl; have hfz13_0 := blk_frozen BK170.out 0; have hfz13_1 := blk_frozen BK170.out 1; have hfz13_2 := blk_frozen BK170.out 2))
    refine bodyPost_ret (results_cell_row rfl _ _ gb170 60 #[.bool false, .int .u64 t173, .int .u64 t174] (0, 0) _ rfl (by (with_reducible repeat (first | refine blk_drewN ?_ _ | refine blk_drew ?_ | refine blk_alloc ?_ _)); refine blk_put (cs := #[.bool false, .int .u64 t173, .int .u64 0]) ?_ 2 _ rfl; (with_reducible repeat (first | refine blk_drewN ?_ _ | refine blk_drew ?_ | refine blk_alloc ?_ _)); refine blk_put (cs := #[.bool false, .int .u64 0, .int .u64 0]) ?_ 1 _ rfl; (with_reducible repeat (first | refine blk_drewN ?_ _ | refine blk_drew ?_ | refine blk_alloc ?_ _)); refine blk_put (cs := #[.bool false, .int .u64 0, .int .u64 0]) ?_ 0 _ rfl; (with_reducible repeat (first | refine blk_drewN ?_ _ | refine blk_drew ?_ | refine blk_alloc ?_ _)); exact BK170.out) Tryd.underlying60 rfl (by kernel_rfl)) rfl ?_
    exact ⟨by first | rfl | (simp [errW_none, errW_some] <;> rfl) | (simp [*, errW_none, errW_some] <;> rfl), by repeat (first | (with_reducible first | exact HB.out | apply below_alloc | apply pw_below_drewN | apply below_drew1 | refine below_set ?_ GE170.out) | exact HB.out)⟩

/-! ### tocsinref1_divide: function 38 -/
def tocsinref1_divide.l0 : Nat → Int → Int → Int → Int → Bool → Int → Int → Option (Int × Bool × Bool)
  | 0, _, _, _, _, _, _, _ => none
  | k + 1, x1, x7, x8, x9, x176000, x176001, x176002 => if x9 ≥ 0 then (if 0 ≤ (IntKind.u64.wrap (x9)) then (if (x7 / 9223372036854775808) = 1 then (tocsinref1_divide.l0 k x1 (IntKind.u64.wrap ((Go.bits .or .u64 (IntKind.u64.wrap (x7 * 2)) (Go.bits .and .u64 (shr .u64 x176002 (IntKind.u64.wrap (x9))) 1)) - x1)) (Go.bits .or .u64 (IntKind.u64.wrap (x8 * 2)) 1) (wrap64 (x9 - 1)) x176000 x176001 x176002) else (if (Go.bits .or .u64 (IntKind.u64.wrap (x7 * 2)) (Go.bits .and .u64 (shr .u64 x176002 (IntKind.u64.wrap (x9))) 1)) ≥ x1 then (tocsinref1_divide.l0 k x1 (IntKind.u64.wrap ((Go.bits .or .u64 (IntKind.u64.wrap (x7 * 2)) (Go.bits .and .u64 (shr .u64 x176002 (IntKind.u64.wrap (x9))) 1)) - x1)) (Go.bits .or .u64 (IntKind.u64.wrap (x8 * 2)) 1) (wrap64 (x9 - 1)) x176000 x176001 x176002) else (tocsinref1_divide.l0 k x1 (Go.bits .or .u64 (IntKind.u64.wrap (x7 * 2)) (Go.bits .and .u64 (shr .u64 x176002 (IntKind.u64.wrap (x9))) 1)) (IntKind.u64.wrap (x8 * 2)) (wrap64 (x9 - 1)) x176000 x176001 x176002))) else (none)) else (some (x8, (x7 != 0), true))
def tocsinref1_divide.f (k : Nat) (a0_0 : Bool) (a0_1 : Int) (a0_2 : Int) (a1 : Int) : Option (Int × Bool × Bool) := if a0_1 ≥ a1 then (some (0, false, false)) else (tocsinref1_divide.l0 k a1 a0_1 0 63 a0_0 a0_1 a0_2)
theorem tocsinref1_divide.mono_l : ∀ k, (∀ y0 y1 y2 y3 y4 y5 y6, LeO (tocsinref1_divide.l0 k y0 y1 y2 y3 y4 y5 y6) (tocsinref1_divide.l0 (k + 1) y0 y1 y2 y3 y4 y5 y6))
  | 0 => fun _ _ _ _ _ _ _ r h => by simp [tocsinref1_divide.l0] at h
  | k + 1 => by
    have ih0 := tocsinref1_divide.mono_l k
    · intro y0 y1 y2 y3 y4 y5 y6
      unfold tocsinref1_divide.l0
      repeat' first
      | (with_reducible exact ih0 _ _ _ _ _ _ _)
      | (with_reducible exact LeO.refl _)
      | (with_reducible exact LeO.none _)
      | (with_reducible refine LeO.ite ?_ ?_)
      | (with_reducible refine LeO.bind ?_ (fun _ => ?_))
      | exact ih0 _ _ _ _ _ _ _
      | exact LeO.none _
      | refine LeO.ite ?_ ?_
      | refine LeO.bind ?_ (fun _ => ?_)
theorem tocsinref1_divide.mono : ∀ a0 a1 a2 a3 k, LeO (tocsinref1_divide.f k a0 a1 a2 a3) (tocsinref1_divide.f (k + 1) a0 a1 a2 a3) := by
  intro a0 a1 a2 a3 k
  have ih0 := tocsinref1_divide.mono_l k
  unfold tocsinref1_divide.f
  repeat' first
      | (with_reducible exact ih0 _ _ _ _ _ _ _)
      | (with_reducible exact LeO.refl _)
      | (with_reducible exact LeO.none _)
      | (with_reducible refine LeO.ite ?_ ?_)
      | (with_reducible refine LeO.bind ?_ (fun _ => ?_))
      | exact ih0 _ _ _ _ _ _ _
      | exact LeO.none _
      | refine LeO.ite ?_ ?_
      | refine LeO.bind ?_ (fun _ => ?_)
set_option maxHeartbeats 8000000 in
set_option maxRecDepth 100000 in
theorem tocsinref1_divide.calls (k : Nat) (a0_0 : Bool) (a0_1 : Int) (a0_2 : Int) (a1 : Int) (r1 : Int) (r2 : Bool) (r3 : Bool) (w : World) (h : tocsinref1_divide.f k a0_0 a0_1 a0_2 a1 = some (r1, r2, r3)) :
    Calls Tryd.prog 38 #[.agg #[.bool a0_0, .int .u64 a0_1, .int .u64 a0_2], .int .u64 a1] w fun e w' => e = .returned (.tuple #[.int .u64 r1, .bool r2, .bool r3]) ∧ Below w.heap.size w w' := by
  have hu60 := Tryd.underlying60
  have HB := Aside0.mk (Below.refl w.heap.size w)
  have H : (if a0_1 ≥ a1 then (some (0, false, false)) else (tocsinref1_divide.l0 k a1 a0_1 0 63 a0_0 a0_1 a0_2)) = some (r1, r2, r3) := h
  clear h
  by_cases c3 : a0_1 ≥ a1
  · rw [if_pos c3] at H
    have c3b0 : decide (a1 ≤ a0_1) = true := decide_eq_true c3
    clear c3
    simp only [Option.some.injEq, Prod.mk.injEq] at H
    obtain ⟨rfl, rfl, rfl⟩ := H
    go_enter Tryd.func38, Tryd.ntmps38
    go_wp2_with (first | ((with_reducible refine gate_dst (N := 2) rfl ?_); refine box_event ?hg (N := 2) ?hd (cs := #[.bool a0_0, .int .u64 a0_1, .int .u64 a0_2]) (t := 60) ?hr ?_; (case hd => rfl); (case hg => rfl); (case hr => first | (go_simp; done) | (go_simp; rfl)); intro gb175 hg w4 hbox hb; have n0_ := Aside0.mk (below_step (by repeat (first | (with_reducible first | exact HB.out | apply below_alloc | apply pw_below_drewN | apply below_drew1) | exact HB.out)) hb); have n1_ := Aside0.mk (hbox); have n2_ := Aside0.mk ((by rw [hg]; exact (below_size (by repeat (first | (with_reducible first | exact HB.out | apply below_alloc | apply pw_below_drewN | apply below_drew1) | exact HB.out))) : w.heap.size ≤ gb175)); have n3_ := Aside0.mk ((by rw [hg]; exact (below_size (by repeat (first | (with_reducible first | exact HB.out | apply below_alloc | apply pw_below_drewN | apply below_drew1) | exact HB.out))) : w.heap.size ≤ gb175)); clear HB; have HB := n0_; have BK175 := n1_; have GW175 := n2_; have GE175 := n3_; clear n0_ n1_ n2_ n3_; clear hb hbox hg; have hcz5_0 : w4.cell? ⟨gb175, 0, none⟩ = some (.bool a0_0) := (blk_cell BK175.out 0).trans rfl; have hcz5_1 : w4.cell? ⟨gb175, 1, none⟩ = some (.int .u64 a0_1) := (blk_cell BK175.out 1).trans rfl; have hcz5_2 : w4.cell? ⟨gb175, 2, none⟩ = some (.int .u64 a0_2) := (blk_cell BK175.out 2).trans rfl; have hfz5_0 := blk_frozen BK175.out 0; have hfz5_1 := blk_frozen BK175.out 1; have hfz5_2 := blk_frozen BK175.out 2))
    go_ret3
    exact ⟨by first | rfl | (simp [errW_none, errW_some] <;> rfl) | (simp [*, errW_none, errW_some] <;> rfl), by repeat (first | (with_reducible first | exact HB.out | apply below_alloc | apply pw_below_drewN | apply below_drew1 | refine below_set ?_ GE175.out) | exact HB.out)⟩
  · rw [if_neg c3] at H
    have c3b0 : decide (a1 ≤ a0_1) = false := decide_eq_false c3
    clear c3
    have H' := Aside0.mk H
    clear H
    go_enter Tryd.func38, Tryd.ntmps38
    go_wp2_with (first | ((with_reducible refine gate_dst (N := 2) rfl ?_); refine box_event ?hg (N := 2) ?hd (cs := #[.bool a0_0, .int .u64 a0_1, .int .u64 a0_2]) (t := 60) ?hr ?_; (case hd => rfl); (case hg => rfl); (case hr => first | (go_simp; done) | (go_simp; rfl)); intro gb175 hg w6 hbox hb; have n0_ := Aside0.mk (below_step (by repeat (first | (with_reducible first | exact HB.out | apply below_alloc | apply pw_below_drewN | apply below_drew1) | exact HB.out)) hb); have n1_ := Aside0.mk (hbox); have n2_ := Aside0.mk ((by rw [hg]; exact (below_size (by repeat (first | (with_reducible first | exact HB.out | apply below_alloc | apply pw_below_drewN | apply below_drew1) | exact HB.out))) : w.heap.size ≤ gb175)); have n3_ := Aside0.mk ((by rw [hg]; exact (below_size (by repeat (first | (with_reducible first | exact HB.out | apply below_alloc | apply pw_below_drewN | apply below_drew1) | exact HB.out))) : w.heap.size ≤ gb175)); clear HB; have HB := n0_; have BK175 := n1_; have GW175 := n2_; have GE175 := n3_; clear n0_ n1_ n2_ n3_; clear hb hbox hg; have hcz7_0 : w6.cell? ⟨gb175, 0, none⟩ = some (.bool a0_0) := (blk_cell BK175.out 0).trans rfl; have hcz7_1 : w6.cell? ⟨gb175, 1, none⟩ = some (.int .u64 a0_1) := (blk_cell BK175.out 1).trans rfl; have hcz7_2 : w6.cell? ⟨gb175, 2, none⟩ = some (.int .u64 a0_2) := (blk_cell BK175.out 2).trans rfl; have hfz7_0 := blk_frozen BK175.out 0; have hfz7_1 := blk_frozen BK175.out 1; have hfz7_2 := blk_frozen BK175.out 2))
    go_loopg [7, 8, 9] k (fun kq v7 v8 v9 w' => ∃ (x7_1 : Int) (x8_1 : Int) (x9_1 : Int), v7 = .int .u64 x7_1 ∧ v8 = .int .u64 x8_1 ∧ v9 = .int .i64 x9_1 ∧ Aside0 (tocsinref1_divide.l0 kq a1 x7_1 x8_1 x9_1 a0_0 a0_1 a0_2 = some (r1, r2, r3)) ∧ Aside0 (kq ≤ k) ∧ Aside0 (w'.heap[gb175]? = some (.cells #[.bool a0_0, .int .u64 a0_1, .int .u64 a0_2] 60 (0, 0))) ∧ Aside0 (Below w.heap.size w w'))
    case atStart => exact ⟨(a0_1), (0), (63), (by first | rfl | (simp; done) | (simp [*]; done)), (by first | rfl | (simp; done) | (simp [*]; done)), (by first | rfl | (simp; done) | (simp [*]; done)), H', ⟨Nat.le_refl _⟩, ⟨by (with_reducible repeat (first | refine blk_drewN ?_ _ | refine blk_drew ?_ | refine blk_alloc ?_ _)); exact BK175.out⟩, ⟨by repeat (first | (with_reducible first | exact HB.out | apply below_alloc | apply pw_below_drewN | apply below_drew1 | refine below_set ?_ GE175.out) | exact HB.out)⟩⟩
    case round =>
      clear H'
      try clear p2
      try clear c3
      try clear c3b0
      try clear hcz5_0
      try clear hcz5_1
      try clear hcz5_2
      try clear hcz7_0
      try clear hcz7_1
      try clear hcz7_2
      try clear hfz5_0
      try clear hfz5_1
      try clear hfz5_2
      try clear hfz7_0
      try clear hfz7_1
      try clear hfz7_2
      obtain ⟨x7_1, x8_1, x9_1, rfl, rfl, rfl, HA, HK1, BK175, HB⟩ := hrel
      cases gk with
      | zero => exact absurd HA.out (by simp [tocsinref1_divide.l0])
      | succ k1 =>
        have H := HA.out
        clear HA
        simp only [tocsinref1_divide.l0] at H
        by_cases c8 : x9_1 ≥ 0
        · rw [if_pos c8] at H
          have c8b0 : decide (0 ≤ x9_1) = true := decide_eq_true c8
          clear c8
          obtain ⟨ji9, hji9⟩ : ∃ j_ : Int, (IntKind.u64.wrap (x9_1)) = j_ := ⟨_, rfl⟩
          replace H : (if 0 ≤ (ji9) then (if (x7_1 / 9223372036854775808) = 1 then (tocsinref1_divide.l0 k1 a1 (IntKind.u64.wrap ((Go.bits .or .u64 (IntKind.u64.wrap (x7_1 * 2)) (Go.bits .and .u64 (shr .u64 a0_2 (ji9)) 1)) - a1)) (Go.bits .or .u64 (IntKind.u64.wrap (x8_1 * 2)) 1) (wrap64 (x9_1 - 1)) a0_0 a0_1 a0_2) else (if (Go.bits .or .u64 (IntKind.u64.wrap (x7_1 * 2)) (Go.bits .and .u64 (shr .u64 a0_2 (ji9)) 1)) ≥ a1 then (tocsinref1_divide.l0 k1 a1 (IntKind.u64.wrap ((Go.bits .or .u64 (IntKind.u64.wrap (x7_1 * 2)) (Go.bits .and .u64 (shr .u64 a0_2 (ji9)) 1)) - a1)) (Go.bits .or .u64 (IntKind.u64.wrap (x8_1 * 2)) 1) (wrap64 (x9_1 - 1)) a0_0 a0_1 a0_2) else (tocsinref1_divide.l0 k1 a1 (Go.bits .or .u64 (IntKind.u64.wrap (x7_1 * 2)) (Go.bits .and .u64 (shr .u64 a0_2 (ji9)) 1)) (IntKind.u64.wrap (x8_1 * 2)) (wrap64 (x9_1 - 1)) a0_0 a0_1 a0_2))) else (none)) = some (r1, r2, r3) := by first | (rw [hji9] at H; exact H) | (simp only [hji9] at H ⊢; exact H)
          by_cases c10 : 0 ≤ (ji9)
          · rw [if_pos c10] at H
            have c10b0 := eq_true c10
            have c10b1 : decide (0 ≤ (ji9)) = true := decide_eq_true c10
            clear c10
            obtain ⟨ji11, hji11⟩ : ∃ j_ : Int, (shr .u64 a0_2 (ji9)) = j_ := ⟨_, rfl⟩
            replace H : (if (x7_1 / 9223372036854775808) = 1 then (tocsinref1_divide.l0 k1 a1 (IntKind.u64.wrap ((Go.bits .or .u64 (IntKind.u64.wrap (x7_1 * 2)) (Go.bits .and .u64 (ji11) 1)) - a1)) (Go.bits .or .u64 (IntKind.u64.wrap (x8_1 * 2)) 1) (wrap64 (x9_1 - 1)) a0_0 a0_1 a0_2) else (if (Go.bits .or .u64 (IntKind.u64.wrap (x7_1 * 2)) (Go.bits .and .u64 (ji11) 1)) ≥ a1 then (tocsinref1_divide.l0 k1 a1 (IntKind.u64.wrap ((Go.bits .or .u64 (IntKind.u64.wrap (x7_1 * 2)) (Go.bits .and .u64 (ji11) 1)) - a1)) (Go.bits .or .u64 (IntKind.u64.wrap (x8_1 * 2)) 1) (wrap64 (x9_1 - 1)) a0_0 a0_1 a0_2) else (tocsinref1_divide.l0 k1 a1 (Go.bits .or .u64 (IntKind.u64.wrap (x7_1 * 2)) (Go.bits .and .u64 (ji11) 1)) (IntKind.u64.wrap (x8_1 * 2)) (wrap64 (x9_1 - 1)) a0_0 a0_1 a0_2))) = some (r1, r2, r3) := by first | (rw [hji11] at H; exact H) | (simp only [hji11] at H ⊢; exact H)
            have hji11_ : (a0_2 / 2 ^ min (ji9).toNat 64) = ji11 := hji11
            have hji11z : (ji9) ≤ 64 → (a0_2 / 2 ^ (ji9).toNat) = ji11 := shr_small hji11
            by_cases c12 : (x7_1 / 9223372036854775808) = 1
            · rw [if_pos c12] at H
              have c12b0 : ((x7_1 / 9223372036854775808) == 1) = true := beq_iff_eq.mpr c12
              have c12b1 : ((x7_1 / 9223372036854775808) != 1) = false := bne_eq_false_iff_eq.mpr c12
              clear c12
              have H' := Aside0.mk H
              clear H
              have hcz13_0 : wr.cell? ⟨gb175, 0, none⟩ = some (.bool a0_0) := (blk_cell BK175.out 0).trans rfl
              have hcz13_1 : wr.cell? ⟨gb175, 1, none⟩ = some (.int .u64 a0_1) := (blk_cell BK175.out 1).trans rfl
              have hcz13_2 : wr.cell? ⟨gb175, 2, none⟩ = some (.int .u64 a0_2) := (blk_cell BK175.out 2).trans rfl
              have hfz13_0 := blk_frozen BK175.out 0
              have hfz13_1 := blk_frozen BK175.out 1
              have hfz13_2 := blk_frozen BK175.out 2
              go_wp2
              go_roundg k1
              case measure => have := HK1.out; omega
              case rel => exact ⟨(IntKind.u64.wrap ((Go.bits .or .u64 (IntKind.u64.wrap (x7_1 * 2)) (Go.bits .and .u64 (ji11) 1)) - a1)), (Go.bits .or .u64 (IntKind.u64.wrap (x8_1 * 2)) 1), (wrap64 (x9_1 - 1)), (by first | rfl | (simp; done) | (simp only [← hji11] <;> (first | rfl | simp)) | (simp [*]; done)), (by first | rfl | (simp; done) | (simp [*]; done)), (by first | rfl | (simp; done) | (simp [*]; done)), H', ⟨by have := HK1.out; omega⟩, ⟨by (with_reducible repeat (first | refine blk_drewN ?_ _ | refine blk_drew ?_ | refine blk_alloc ?_ _)); exact BK175.out⟩, ⟨by repeat (first | (with_reducible first | exact HB.out | apply below_alloc | apply pw_below_drewN | apply below_drew1 | refine below_set ?_ GE175.out) | exact HB.out)⟩⟩
            · rw [if_neg c12] at H
              have c12b0 : ((x7_1 / 9223372036854775808) == 1) = false := beq_eq_false_iff_ne.mpr c12
              have c12b1 : ((x7_1 / 9223372036854775808) != 1) = true := bne_iff_ne.mpr c12
              by_cases c14 : (Go.bits .or .u64 (IntKind.u64.wrap (x7_1 * 2)) (Go.bits .and .u64 (ji11) 1)) ≥ a1
              · rw [if_pos c14] at H
                have c14b0 : decide (a1 ≤ (Go.bits .or .u64 (IntKind.u64.wrap (x7_1 * 2)) (Go.bits .and .u64 (ji11) 1))) = true := decide_eq_true c14
                clear c14
                have H' := Aside0.mk H
                clear H
                have hcz15_0 : wr.cell? ⟨gb175, 0, none⟩ = some (.bool a0_0) := (blk_cell BK175.out 0).trans rfl
                have hcz15_1 : wr.cell? ⟨gb175, 1, none⟩ = some (.int .u64 a0_1) := (blk_cell BK175.out 1).trans rfl
                have hcz15_2 : wr.cell? ⟨gb175, 2, none⟩ = some (.int .u64 a0_2) := (blk_cell BK175.out 2).trans rfl
                have hfz15_0 := blk_frozen BK175.out 0
                have hfz15_1 := blk_frozen BK175.out 1
                have hfz15_2 := blk_frozen BK175.out 2
                go_wp2
                go_roundg k1
                case measure => have := HK1.out; omega
                case rel => exact ⟨(IntKind.u64.wrap ((Go.bits .or .u64 (IntKind.u64.wrap (x7_1 * 2)) (Go.bits .and .u64 (ji11) 1)) - a1)), (Go.bits .or .u64 (IntKind.u64.wrap (x8_1 * 2)) 1), (wrap64 (x9_1 - 1)), (by first | rfl | (simp; done) | (simp only [← hji11] <;> (first | rfl | simp)) | (simp [*]; done)), (by first | rfl | (simp; done) | (simp [*]; done)), (by first | rfl | (simp; done) | (simp [*]; done)), H', ⟨by have := HK1.out; omega⟩, ⟨by (with_reducible repeat (first | refine blk_drewN ?_ _ | refine blk_drew ?_ | refine blk_alloc ?_ _)); exact BK175.out⟩, ⟨by repeat (first | (with_reducible first | exact HB.out | apply below_alloc | apply pw_below_drewN | apply below_drew1 | refine below_set ?_ GE175.out) | exact HB.out)⟩⟩
              · rw [if_neg c14] at H
                have c14b0 : decide (a1 ≤ (Go.bits .or .u64 (IntKind.u64.wrap (x7_1 * 2)) (Go.bits .and .u64 (ji11) 1))) = false := decide_eq_false c14
                clear c14
                have H' := Aside0.mk H
                clear H
                have hcz16_0 : wr.cell? ⟨gb175, 0, none⟩ = some (.bool a0_0) := (blk_cell BK175.out 0).trans rfl
                have hcz16_1 : wr.cell? ⟨gb175, 1, none⟩ = some (.int .u64 a0_1) := (blk_cell BK175.out 1).trans rfl
                have hcz16_2 : wr.cell? ⟨gb175, 2, none⟩ = some (.int .u64 a0_2) := (blk_cell BK175.out 2).trans rfl
                have hfz16_0 := blk_frozen BK175.out 0
                have hfz16_1 := blk_frozen BK175.out 1
                have hfz16_2 := blk_frozen BK175.out 2
                go_wp2
                go_roundg k1
                case measure => have := HK1.out; omega
                case rel => exact ⟨(Go.bits .or .u64 (IntKind.u64.wrap (x7_1 * 2)) (Go.bits .and .u64 (ji11) 1)), (IntKind.u64.wrap (x8_1 * 2)), (wrap64 (x9_1 - 1)), (by first | rfl | (simp; done) | (simp only [← hji11] <;> (first | rfl | simp)) | (simp [*]; done)), (by first | rfl | (simp; done) | (simp [*]; done)), (by first | rfl | (simp; done) | (simp [*]; done)), H', ⟨by have := HK1.out; omega⟩, ⟨by (with_reducible repeat (first | refine blk_drewN ?_ _ | refine blk_drew ?_ | refine blk_alloc ?_ _)); exact BK175.out⟩, ⟨by repeat (first | (with_reducible first | exact HB.out | apply below_alloc | apply pw_below_drewN | apply below_drew1 | refine below_set ?_ GE175.out) | exact HB.out)⟩⟩
          · rw [if_neg c10] at H
            exact absurd H (by simp)
        · rw [if_neg c8] at H
          have c8b0 : decide (0 ≤ x9_1) = false := decide_eq_false c8
          clear c8
          simp only [Option.some.injEq, Prod.mk.injEq] at H
          obtain ⟨rfl, rfl, rfl⟩ := H
          go_wp2
          go_ret3
          exact ⟨by first | rfl | (simp [errW_none, errW_some] <;> rfl) | (simp [*, errW_none, errW_some] <;> rfl), by repeat (first | (with_reducible first | exact HB.out | apply below_alloc | apply pw_below_drewN | apply below_drew1 | refine below_set ?_ GE175.out) | exact HB.out)⟩

/-! ### tocsinref1_signed: function 39 -/
def tocsinref1_signed.f (a0 : Int) (a1 : Bool) : Option (Int × Bool) := if a1 = true then (if a0 > 9223372036854775808 then (some (0, false)) else (some (wrap64 (IntKind.u64.wrap (-a0)), true))) else (if a0 > 9223372036854775807 then (some (0, false)) else (some (wrap64 (a0), true)))
set_option maxHeartbeats 8000000 in
set_option maxRecDepth 100000 in
theorem tocsinref1_signed.calls (a0 : Int) (a1 : Bool) (r1 : Int) (r2 : Bool) (w : World) (h : tocsinref1_signed.f a0 a1 = some (r1, r2)) :
    Calls Tryd.prog 39 #[.int .u64 a0, .bool a1] w fun e w' => e = .returned (.tuple #[.int .i64 r1, .bool r2]) ∧ Drawn0 w w' := by
  have H : (if a1 = true then (if a0 > 9223372036854775808 then (some (0, false)) else (some (wrap64 (IntKind.u64.wrap (-a0)), true))) else (if a0 > 9223372036854775807 then (some (0, false)) else (some (wrap64 (a0), true)))) = some (r1, r2) := h
  clear h
  by_cases c3 : a1 = true
  · subst c3
    have H1 : (if a0 > 9223372036854775808 then (some (0, false)) else (some (wrap64 (IntKind.u64.wrap (-a0)), true))) = some (r1, r2) := by rw [if_pos rfl] at H; exact H
    clear H
    have H := H1
    clear H1
    by_cases c4 : a0 > 9223372036854775808
    · rw [if_pos c4] at H
      have c4b0 : decide (9223372036854775808 < a0) = true := decide_eq_true c4
      clear c4
      simp only [Option.some.injEq, Prod.mk.injEq] at H
      obtain ⟨rfl, rfl⟩ := H
      go_enter Tryd.func39, Tryd.ntmps39
      go_wp2
      go_ret2
      exact ⟨by first | rfl | (simp; done) | (simp [*]; done), by repeat (first | exact Drawn0.refl _ | apply Drawn0.step)⟩
    · rw [if_neg c4] at H
      have c4b0 : decide (9223372036854775808 < a0) = false := decide_eq_false c4
      clear c4
      simp only [Option.some.injEq, Prod.mk.injEq] at H
      obtain ⟨rfl, rfl⟩ := H
      go_enter Tryd.func39, Tryd.ntmps39
      go_wp2
      go_ret2
      exact ⟨by first | rfl | (simp; done) | (simp [*]; done), by repeat (first | exact Drawn0.refl _ | apply Drawn0.step)⟩
  · replace c3 := Bool.eq_false_iff.mpr c3
    subst c3
    have H1 : (if a0 > 9223372036854775807 then (some (0, false)) else (some (wrap64 (a0), true))) = some (r1, r2) := by rw [if_neg (show ¬ (false = true) by decide)] at H; exact H
    clear H
    have H := H1
    clear H1
    by_cases c5 : a0 > 9223372036854775807
    · rw [if_pos c5] at H
      have c5b0 : decide (9223372036854775807 < a0) = true := decide_eq_true c5
      clear c5
      simp only [Option.some.injEq, Prod.mk.injEq] at H
      obtain ⟨rfl, rfl⟩ := H
      go_enter Tryd.func39, Tryd.ntmps39
      go_wp2
      go_ret2
      exact ⟨by first | rfl | (simp; done) | (simp [*]; done), by repeat (first | exact Drawn0.refl _ | apply Drawn0.step)⟩
    · rw [if_neg c5] at H
      have c5b0 : decide (9223372036854775807 < a0) = false := decide_eq_false c5
      clear c5
      simp only [Option.some.injEq, Prod.mk.injEq] at H
      obtain ⟨rfl, rfl⟩ := H
      go_enter Tryd.func39, Tryd.ntmps39
      go_wp2
      go_ret2
      exact ⟨by first | rfl | (simp; done) | (simp [*]; done), by repeat (first | exact Drawn0.refl _ | apply Drawn0.step)⟩

/-! ### tocsinref1_part: function 29 -/
def tocsinref1_part.j0 : Nat → Int → Bool → Bool → Int → Int → Option (Int × Bool)
  | 0, _, _, _, _, _ => none
  | k + 1, x11, x35, x180000, x180001, x180002 => if x35 = true then (if x11 = 18446744073709551615 then (some (0, false)) else ((tocsinref1_signed.f (IntKind.u64.wrap (x11 + 1)) x180000).bind fun bt183 => (some (bt183.1, bt183.2)))) else ((tocsinref1_signed.f x11 x180000).bind fun bt185 => (some (bt185.1, bt185.2)))
def tocsinref1_part.f (k : Nat) (a0 : Int) (a1 : Int) (a2 : Int) (a3 : Bool) : Option (Int × Bool) := if a2 < 1 then (some (0, false)) else ((tocsinref1_times.f a0 a1).bind fun bt176 => ((tocsinref1_divide.f k bt176.1 bt176.2.1 bt176.2.2 (IntKind.u64.wrap (a2))).bind fun bt180 => (if bt180.2.2 = true then (if bt180.2.1 = true then (tocsinref1_part.j0 k bt180.1 (a3 != bt176.1) bt176.1 bt176.2.1 bt176.2.2) else (tocsinref1_part.j0 k bt180.1 false bt176.1 bt176.2.1 bt176.2.2)) else (some (0, false)))))
theorem tocsinref1_part.mono_l : ∀ k, (∀ y0 y1 y2 y3 y4, LeO (tocsinref1_part.j0 k y0 y1 y2 y3 y4) (tocsinref1_part.j0 (k + 1) y0 y1 y2 y3 y4))
  | 0 => fun _ _ _ _ _ r h => by simp [tocsinref1_part.j0] at h
  | k + 1 => by
    have ih0 := tocsinref1_part.mono_l k
    · intro y0 y1 y2 y3 y4
      unfold tocsinref1_part.j0
      repeat' first
      | (with_reducible exact ih0 _ _ _ _ _)
      | (with_reducible exact tocsinref1_divide.mono _ _ _ _ _)
      | (with_reducible exact LeO.refl _)
      | (with_reducible exact LeO.none _)
      | (with_reducible refine LeO.ite ?_ ?_)
      | (with_reducible refine LeO.bind ?_ (fun _ => ?_))
      | exact ih0 _ _ _ _ _
      | exact tocsinref1_divide.mono _ _ _ _ _
      | exact LeO.none _
      | refine LeO.ite ?_ ?_
      | refine LeO.bind ?_ (fun _ => ?_)
theorem tocsinref1_part.mono : ∀ a0 a1 a2 a3 k, LeO (tocsinref1_part.f k a0 a1 a2 a3) (tocsinref1_part.f (k + 1) a0 a1 a2 a3) := by
  intro a0 a1 a2 a3 k
  have ih0 := tocsinref1_part.mono_l k
  unfold tocsinref1_part.f
  repeat' first
      | (with_reducible exact ih0 _ _ _ _ _)
      | (with_reducible exact tocsinref1_divide.mono _ _ _ _ _)
      | (with_reducible exact LeO.refl _)
      | (with_reducible exact LeO.none _)
      | (with_reducible refine LeO.ite ?_ ?_)
      | (with_reducible refine LeO.bind ?_ (fun _ => ?_))
      | exact ih0 _ _ _ _ _
      | exact tocsinref1_divide.mono _ _ _ _ _
      | exact LeO.none _
      | refine LeO.ite ?_ ?_
      | refine LeO.bind ?_ (fun _ => ?_)
set_option maxHeartbeats 8000000 in
set_option maxRecDepth 100000 in
theorem tocsinref1_part.calls (k : Nat) (a0 : Int) (a1 : Int) (a2 : Int) (a3 : Bool) (r1 : Int) (r2 : Bool) (w : World) (h : tocsinref1_part.f k a0 a1 a2 a3 = some (r1, r2)) :
    Calls Tryd.prog 29 #[.int .i64 a0, .int .i64 a1, .int .i64 a2, .bool a3] w fun e w' => e = .returned (.tuple #[.int .i64 r1, .bool r2]) ∧ Below w.heap.size w w' := by
  have hu60 := Tryd.underlying60
  have HB := Aside0.mk (Below.refl w.heap.size w)
  have H : (if a2 < 1 then (some (0, false)) else ((tocsinref1_times.f a0 a1).bind fun bt176 => ((tocsinref1_divide.f k bt176.1 bt176.2.1 bt176.2.2 (IntKind.u64.wrap (a2))).bind fun bt180 => (if bt180.2.2 = true then (if bt180.2.1 = true then (tocsinref1_part.j0 k bt180.1 (a3 != bt176.1) bt176.1 bt176.2.1 bt176.2.2) else (tocsinref1_part.j0 k bt180.1 false bt176.1 bt176.2.1 bt176.2.2)) else (some (0, false)))))) = some (r1, r2) := h
  clear h
  by_cases c5 : a2 < 1
  · rw [if_pos c5] at H
    have c5b0 : decide (a2 < 1) = true := decide_eq_true c5
    clear c5
    simp only [Option.some.injEq, Prod.mk.injEq] at H
    obtain ⟨rfl, rfl⟩ := H
    go_enter Tryd.func29, Tryd.ntmps29
    go_wp2
    go_ret2
    exact ⟨by first | rfl | (simp [errW_none, errW_some] <;> rfl) | (simp [*, errW_none, errW_some] <;> rfl), by repeat (first | (with_reducible first | exact HB.out | apply below_alloc | apply pw_below_drewN | apply below_drew1) | exact HB.out)⟩
  · rw [if_neg c5] at H
    have c5b0 : decide (a2 < 1) = false := decide_eq_false c5
    clear c5
    replace H := Option.bind_eq_some_iff.mp H
    obtain ⟨⟨t176, t177, t178⟩, A60, H⟩ := H
    replace H : ((tocsinref1_divide.f k t176 t177 t178 (IntKind.u64.wrap (a2))).bind fun bt180 => (if bt180.2.2 = true then (if bt180.2.1 = true then (tocsinref1_part.j0 k bt180.1 (a3 != t176) t176 t177 t178) else (tocsinref1_part.j0 k bt180.1 false t176 t177 t178)) else (some (0, false)))) = some (r1, r2) := H
    have A6 := Aside0.mk A60
    clear A60
    replace H := Option.bind_eq_some_iff.mp H
    obtain ⟨⟨t180, t181, t182⟩, A70, H⟩ := H
    replace H : (if t182 = true then (if t181 = true then (tocsinref1_part.j0 k t180 (a3 != t176) t176 t177 t178) else (tocsinref1_part.j0 k t180 false t176 t177 t178)) else (some (0, false))) = some (r1, r2) := H
    have A7 := Aside0.mk A70
    clear A70
    by_cases c8 : t182 = true
    · subst c8
      have H1 : (if t181 = true then (tocsinref1_part.j0 k t180 (a3 != t176) t176 t177 t178) else (tocsinref1_part.j0 k t180 false t176 t177 t178)) = some (r1, r2) := by rw [if_pos rfl] at H; exact H
      clear H
      have H := H1
      clear H1
      have HC9 := Aside0.mk H
      clear H
      go_enter Tryd.func29, Tryd.ntmps29
      go_upto_region 7 with (first | ((with_reducible refine gate_callee (f := 37) rfl ?_); refine goesL_ (some 18) rfl rfl Tryd.func37 (by kernel_rfl) rfl #[.int .i64 a0, .int .i64 a1] rfl (by (try simp only [List.map_toArray, List.map_cons, List.map_nil]); first | done | rfl | (simp only [List.length_drop, List.length_take]; rfl)) ?_; (with_reducible refine (tocsinref1_times.calls a0 a1 t176 t177 t178 _ A6.out).mono ?_); rintro e w10 ⟨rfl, hb⟩; refine ⟨_, rfl, ?_⟩; have n0_ := Aside0.mk (below_step (by repeat (first | (with_reducible first | exact HB.out | apply below_alloc | apply pw_below_drewN | apply below_drew1) | exact HB.out)) hb); clear HB; have HB := n0_; clear n0_; (try clear hb); (try clear hb2); (try clear hk); (try clear hi)) | ((with_reducible refine gate_dst (N := 10) rfl ?_); refine box_event ?hg (N := 10) ?hd (cs := #[.bool false, .int .u64 0, .int .u64 0]) (t := 60) ?hr ?_; (case hd => rfl); (case hg => rfl); (case hr => first | (go_simp; done) | (go_simp; rfl)); intro gb179 hg w11 hbox hb; have n0_ := Aside0.mk (below_step (by repeat (first | (with_reducible first | exact HB.out | apply below_alloc | apply pw_below_drewN | apply below_drew1) | exact HB.out)) hb); have n1_ := Aside0.mk (hbox); have n2_ := Aside0.mk ((by rw [hg]; exact (below_size (by repeat (first | (with_reducible first | exact HB.out | apply below_alloc | apply pw_below_drewN | apply below_drew1) | exact HB.out))) : w.heap.size ≤ gb179)); have n3_ := Aside0.mk ((by rw [hg]; exact (below_size (by repeat (first | (with_reducible first | exact HB.out | apply below_alloc | apply pw_below_drewN | apply below_drew1) | exact HB.out))) : w.heap.size ≤ gb179)); clear HB; have HB := n0_; have BK179 := n1_; have GW179 := n2_; have GE179 := n3_; clear n0_ n1_ n2_ n3_; clear hb hbox hg; have hcz12_0 : w11.cell? ⟨gb179, 0, none⟩ = some (.bool false) := (blk_cell BK179.out 0).trans rfl; have hcz12_1 : w11.cell? ⟨gb179, 1, none⟩ = some (.int .u64 0) := (blk_cell BK179.out 1).trans rfl; have hcz12_2 : w11.cell? ⟨gb179, 2, none⟩ = some (.int .u64 0) := (blk_cell BK179.out 2).trans rfl; have hfz12_0 := blk_frozen BK179.out 0; have hfz12_1 := blk_frozen BK179.out 1; have hfz12_2 := blk_frozen BK179.out 2) | ((with_reducible refine gate_callee (f := 38) rfl ?_); refine goesL_ (some 23) rfl rfl Tryd.func38 (by kernel_rfl) rfl #[.agg #[.bool t176, .int .u64 t177, .int .u64 t178], .int .u64 (IntKind.u64.wrap (a2))] rfl (by (try simp only [List.map_toArray, List.map_cons, List.map_nil]); first | done | rfl | (simp only [List.length_drop, List.length_take]; rfl)) ?_; (with_reducible refine (tocsinref1_divide.calls k t176 t177 t178 (IntKind.u64.wrap (a2)) t180 t181 true _ A7.out).mono ?_); rintro e w13 ⟨rfl, hb⟩; refine ⟨_, rfl, ?_⟩; have n0_ := Aside0.mk (blk_below (g := gb179) (o := .cells #[.bool t176, .int .u64 t177, .int .u64 t178] 60 (0, 0)) (by (with_reducible repeat (first | refine blk_drewN ?_ _ | refine blk_drew ?_ | refine blk_alloc ?_ _)); refine blk_put (cs := #[.bool t176, .int .u64 t177, .int .u64 0]) ?_ 2 _ rfl; (with_reducible repeat (first | refine blk_drewN ?_ _ | refine blk_drew ?_ | refine blk_alloc ?_ _)); refine blk_put (cs := #[.bool t176, .int .u64 0, .int .u64 0]) ?_ 1 _ rfl; (with_reducible repeat (first | refine blk_drewN ?_ _ | refine blk_drew ?_ | refine blk_alloc ?_ _)); refine blk_put (cs := #[.bool false, .int .u64 0, .int .u64 0]) ?_ 0 _ rfl; (with_reducible repeat (first | refine blk_drewN ?_ _ | refine blk_drew ?_ | refine blk_alloc ?_ _)); exact BK179.out) hb); have n1_ := Aside0.mk (below_step (by repeat (first | (with_reducible first | exact HB.out | apply below_alloc | apply pw_below_drewN | apply below_drew1 | refine below_set ?_ GE179.out) | exact HB.out)) hb); clear BK179; clear HB; have BK179 := n0_; have HB := n1_; clear n0_ n1_; (try clear hb); (try clear hb2); (try clear hk); (try clear hi)))
      (try simp only [Act.put, List.setIfInBounds_toArray, List.set_cons_zero, List.set_cons_succ])
      go_cut [35] (fun v35 wc => ∃ (kq : Nat) (x35_8 : Bool), v35 = .bool x35_8 ∧ Aside0 (tocsinref1_part.j0 kq t180 x35_8 t176 t177 t178 = some (r1, r2)) ∧ Aside0 (kq ≤ k) ∧ Aside0 (wc.heap[gb179]? = some (.cells #[.bool t176, .int .u64 t177, .int .u64 t178] 60 (0, 0))) ∧ Aside0 (Below w.heap.size w wc))
      case first =>
        have H := HC9.out
        clear HC9
        by_cases c14 : t181 = true
        · subst c14
          have H1 : (tocsinref1_part.j0 k t180 (a3 != t176) t176 t177 t178) = some (r1, r2) := by rw [if_pos rfl] at H; exact H
          clear H
          have H := H1
          clear H1
          have H' := Aside0.mk H
          clear H
          have hcz15_0 : w13.cell? ⟨gb179, 0, none⟩ = some (.bool t176) := (blk_cell BK179.out 0).trans rfl
          have hcz15_1 : w13.cell? ⟨gb179, 1, none⟩ = some (.int .u64 t177) := (blk_cell BK179.out 1).trans rfl
          have hcz15_2 : w13.cell? ⟨gb179, 2, none⟩ = some (.int .u64 t178) := (blk_cell BK179.out 2).trans rfl
          have hfz15_0 := blk_frozen BK179.out 0
          have hfz15_1 := blk_frozen BK179.out 1
          have hfz15_2 := blk_frozen BK179.out 2
          go_wp2
          go_meet
          case rel => exact ⟨_, ((a3 != t176)), (by first | rfl | (simp; done) | (simp [*]; done)), H', ⟨by first | omega | exact Nat.le_refl _⟩, ⟨by (with_reducible repeat (first | refine blk_drewN ?_ _ | refine blk_drew ?_ | refine blk_alloc ?_ _)); exact BK179.out⟩, ⟨by repeat (first | (with_reducible first | exact HB.out | apply below_alloc | apply pw_below_drewN | apply below_drew1 | refine below_set ?_ GE179.out) | exact HB.out)⟩⟩
        · replace c14 := Bool.eq_false_iff.mpr c14
          subst c14
          have H1 : (tocsinref1_part.j0 k t180 false t176 t177 t178) = some (r1, r2) := by rw [if_neg (show ¬ (false = true) by decide)] at H; exact H
          clear H
          have H := H1
          clear H1
          have H' := Aside0.mk H
          clear H
          go_wp2
          go_meet
          case rel => exact ⟨_, (false), (by first | rfl | (simp; done) | (simp [*]; done)), H', ⟨by first | omega | exact Nat.le_refl _⟩, ⟨by (with_reducible repeat (first | refine blk_drewN ?_ _ | refine blk_drew ?_ | refine blk_alloc ?_ _)); exact BK179.out⟩, ⟨by repeat (first | (with_reducible first | exact HB.out | apply below_alloc | apply pw_below_drewN | apply below_drew1 | refine below_set ?_ GE179.out) | exact HB.out)⟩⟩
      case rest =>
        clear HC9
        try clear c1
        try clear c2
        try clear p2
        try clear c3
        try clear c5
        try clear c5b0
        try clear c8
        try clear c14
        try clear hcz12_0
        try clear hcz12_1
        try clear hcz12_2
        try clear hcz15_0
        try clear hcz15_1
        try clear hcz15_2
        try clear hfz12_0
        try clear hfz12_1
        try clear hfz12_2
        try clear hfz15_0
        try clear hfz15_1
        try clear hfz15_2
        obtain ⟨kq, x35_8, rfl, HA, HJ8, BK179, HB⟩ := hcut
        cases kq with
        | zero => exact absurd HA.out (by simp [tocsinref1_part.j0])
        | succ kj8 =>
          have H := HA.out
          clear HA
          simp only [tocsinref1_part.j0] at H
          by_cases c16 : x35_8 = true
          · subst c16
            have H1 : (if t180 = 18446744073709551615 then (some (0, false)) else ((tocsinref1_signed.f (IntKind.u64.wrap (t180 + 1)) t176).bind fun bt183 => (some (bt183.1, bt183.2)))) = some (r1, r2) := by rw [if_pos rfl] at H; exact H
            clear H
            have H := H1
            clear H1
            by_cases c17 : t180 = 18446744073709551615
            · rw [if_pos c17] at H
              have c17b0 : (t180 == 18446744073709551615) = true := beq_iff_eq.mpr c17
              have c17b1 : (t180 != 18446744073709551615) = false := bne_eq_false_iff_eq.mpr c17
              clear c17
              simp only [Option.some.injEq, Prod.mk.injEq] at H
              obtain ⟨rfl, rfl⟩ := H
              go_wp2
              go_ret2
              exact ⟨by first | rfl | (simp [errW_none, errW_some] <;> rfl) | (simp [*, errW_none, errW_some] <;> rfl), by repeat (first | (with_reducible first | exact HB.out | apply below_alloc | apply pw_below_drewN | apply below_drew1 | refine below_set ?_ GE179.out) | exact HB.out)⟩
            · rw [if_neg c17] at H
              have c17b0 : (t180 == 18446744073709551615) = false := beq_eq_false_iff_ne.mpr c17
              have c17b1 : (t180 != 18446744073709551615) = true := bne_iff_ne.mpr c17
              replace H := Option.bind_eq_some_iff.mp H
              obtain ⟨⟨t183, t184⟩, A180, H⟩ := H
              replace H : (some (t183, t184)) = some (r1, r2) := H
              have A18 := Aside0.mk A180
              clear A180
              simp only [Option.some.injEq, Prod.mk.injEq] at H
              obtain ⟨rfl, rfl⟩ := H
              have hcz19_0 : wc.cell? ⟨gb179, 0, none⟩ = some (.bool t176) := (blk_cell BK179.out 0).trans rfl
              have hcz19_1 : wc.cell? ⟨gb179, 1, none⟩ = some (.int .u64 t177) := (blk_cell BK179.out 1).trans rfl
              have hcz19_2 : wc.cell? ⟨gb179, 2, none⟩ = some (.int .u64 t178) := (blk_cell BK179.out 2).trans rfl
              have hfz19_0 := blk_frozen BK179.out 0
              have hfz19_1 := blk_frozen BK179.out 1
              have hfz19_2 := blk_frozen BK179.out 2
              go_wp2_with (first | ((with_reducible refine gate_callee (f := 39) rfl ?_); refine goesL_ (some 43) rfl rfl Tryd.func39 (by kernel_rfl) rfl #[.int .u64 (IntKind.u64.wrap (t180 + 1)), .bool t176] rfl (by (try simp only [List.map_toArray, List.map_cons, List.map_nil]); first | done | rfl | (simp only [List.length_drop, List.length_take]; rfl)) ?_; (with_reducible refine (tocsinref1_signed.calls (IntKind.u64.wrap (t180 + 1)) t176 t183 t184 _ A18.out).mono ?_); rintro e w' ⟨rfl, ⟨nd, rfl⟩⟩; refine ⟨_, rfl, ?_⟩))
              go_ret2
              exact ⟨by first | rfl | (simp [errW_none, errW_some] <;> rfl) | (simp [*, errW_none, errW_some] <;> rfl), by repeat (first | (with_reducible first | exact HB.out | apply below_alloc | apply pw_below_drewN | apply below_drew1 | refine below_set ?_ GE179.out) | exact HB.out)⟩
          · replace c16 := Bool.eq_false_iff.mpr c16
            subst c16
            have H1 : ((tocsinref1_signed.f t180 t176).bind fun bt185 => (some (bt185.1, bt185.2))) = some (r1, r2) := by rw [if_neg (show ¬ (false = true) by decide)] at H; exact H
            clear H
            have H := H1
            clear H1
            replace H := Option.bind_eq_some_iff.mp H
            obtain ⟨⟨t185, t186⟩, A200, H⟩ := H
            replace H : (some (t185, t186)) = some (r1, r2) := H
            have A20 := Aside0.mk A200
            clear A200
            simp only [Option.some.injEq, Prod.mk.injEq] at H
            obtain ⟨rfl, rfl⟩ := H
            have hcz21_0 : wc.cell? ⟨gb179, 0, none⟩ = some (.bool t176) := (blk_cell BK179.out 0).trans rfl
            have hcz21_1 : wc.cell? ⟨gb179, 1, none⟩ = some (.int .u64 t177) := (blk_cell BK179.out 1).trans rfl
            have hcz21_2 : wc.cell? ⟨gb179, 2, none⟩ = some (.int .u64 t178) := (blk_cell BK179.out 2).trans rfl
            have hfz21_0 := blk_frozen BK179.out 0
            have hfz21_1 := blk_frozen BK179.out 1
            have hfz21_2 := blk_frozen BK179.out 2
            go_wp2_with (first | ((with_reducible refine gate_callee (f := 39) rfl ?_); refine goesL_ (some 43) rfl rfl Tryd.func39 (by kernel_rfl) rfl #[.int .u64 t180, .bool t176] rfl (by (try simp only [List.map_toArray, List.map_cons, List.map_nil]); first | done | rfl | (simp only [List.length_drop, List.length_take]; rfl)) ?_; (with_reducible refine (tocsinref1_signed.calls t180 t176 t185 t186 _ A20.out).mono ?_); rintro e w' ⟨rfl, ⟨nd, rfl⟩⟩; refine ⟨_, rfl, ?_⟩))
            go_ret2
            exact ⟨by first | rfl | (simp [errW_none, errW_some] <;> rfl) | (simp [*, errW_none, errW_some] <;> rfl), by repeat (first | (with_reducible first | exact HB.out | apply below_alloc | apply pw_below_drewN | apply below_drew1 | refine below_set ?_ GE179.out) | exact HB.out)⟩
    · replace c8 := Bool.eq_false_iff.mpr c8
      subst c8
      have H1 : (some (0, false)) = some (r1, r2) := by rw [if_neg (show ¬ (false = true) by decide)] at H; exact H
      clear H
      have H := H1
      clear H1
      simp only [Option.some.injEq, Prod.mk.injEq] at H
      obtain ⟨rfl, rfl⟩ := H
      go_enter Tryd.func29, Tryd.ntmps29
      go_wp2_with (first | ((with_reducible refine gate_callee (f := 37) rfl ?_); refine goesL_ (some 18) rfl rfl Tryd.func37 (by kernel_rfl) rfl #[.int .i64 a0, .int .i64 a1] rfl (by (try simp only [List.map_toArray, List.map_cons, List.map_nil]); first | done | rfl | (simp only [List.length_drop, List.length_take]; rfl)) ?_; (with_reducible refine (tocsinref1_times.calls a0 a1 t176 t177 t178 _ A6.out).mono ?_); rintro e w22 ⟨rfl, hb⟩; refine ⟨_, rfl, ?_⟩; have n0_ := Aside0.mk (below_step (by repeat (first | (with_reducible first | exact HB.out | apply below_alloc | apply pw_below_drewN | apply below_drew1) | exact HB.out)) hb); clear HB; have HB := n0_; clear n0_; (try clear hb); (try clear hb2); (try clear hk); (try clear hi)) | ((with_reducible refine gate_dst (N := 10) rfl ?_); refine box_event ?hg (N := 10) ?hd (cs := #[.bool false, .int .u64 0, .int .u64 0]) (t := 60) ?hr ?_; (case hd => rfl); (case hg => rfl); (case hr => first | (go_simp; done) | (go_simp; rfl)); intro gb179 hg w23 hbox hb; have n0_ := Aside0.mk (below_step (by repeat (first | (with_reducible first | exact HB.out | apply below_alloc | apply pw_below_drewN | apply below_drew1) | exact HB.out)) hb); have n1_ := Aside0.mk (hbox); have n2_ := Aside0.mk ((by rw [hg]; exact (below_size (by repeat (first | (with_reducible first | exact HB.out | apply below_alloc | apply pw_below_drewN | apply below_drew1) | exact HB.out))) : w.heap.size ≤ gb179)); have n3_ := Aside0.mk ((by rw [hg]; exact (below_size (by repeat (first | (with_reducible first | exact HB.out | apply below_alloc | apply pw_below_drewN | apply below_drew1) | exact HB.out))) : w.heap.size ≤ gb179)); clear HB; have HB := n0_; have BK179 := n1_; have GW179 := n2_; have GE179 := n3_; clear n0_ n1_ n2_ n3_; clear hb hbox hg; have hcz24_0 : w23.cell? ⟨gb179, 0, none⟩ = some (.bool false) := (blk_cell BK179.out 0).trans rfl; have hcz24_1 : w23.cell? ⟨gb179, 1, none⟩ = some (.int .u64 0) := (blk_cell BK179.out 1).trans rfl; have hcz24_2 : w23.cell? ⟨gb179, 2, none⟩ = some (.int .u64 0) := (blk_cell BK179.out 2).trans rfl; have hfz24_0 := blk_frozen BK179.out 0; have hfz24_1 := blk_frozen BK179.out 1; have hfz24_2 := blk_frozen BK179.out 2) | ((with_reducible refine gate_callee (f := 38) rfl ?_); refine goesL_ (some 23) rfl rfl Tryd.func38 (by kernel_rfl) rfl #[.agg #[.bool t176, .int .u64 t177, .int .u64 t178], .int .u64 (IntKind.u64.wrap (a2))] rfl (by (try simp only [List.map_toArray, List.map_cons, List.map_nil]); first | done | rfl | (simp only [List.length_drop, List.length_take]; rfl)) ?_; (with_reducible refine (tocsinref1_divide.calls k t176 t177 t178 (IntKind.u64.wrap (a2)) t180 t181 false _ A7.out).mono ?_); rintro e w25 ⟨rfl, hb⟩; refine ⟨_, rfl, ?_⟩; have n0_ := Aside0.mk (blk_below (g := gb179) (o := .cells #[.bool t176, .int .u64 t177, .int .u64 t178] 60 (0, 0)) (by (with_reducible repeat (first | refine blk_drewN ?_ _ | refine blk_drew ?_ | refine blk_alloc ?_ _)); refine blk_put (cs := #[.bool t176, .int .u64 t177, .int .u64 0]) ?_ 2 _ rfl; (with_reducible repeat (first | refine blk_drewN ?_ _ | refine blk_drew ?_ | refine blk_alloc ?_ _)); refine blk_put (cs := #[.bool t176, .int .u64 0, .int .u64 0]) ?_ 1 _ rfl; (with_reducible repeat (first | refine blk_drewN ?_ _ | refine blk_drew ?_ | refine blk_alloc ?_ _)); refine blk_put (cs := #[.bool false, .int .u64 0, .int .u64 0]) ?_ 0 _ rfl; (with_reducible repeat (first | refine blk_drewN ?_ _ | refine blk_drew ?_ | refine blk_alloc ?_ _)); exact BK179.out) hb); have n1_ := Aside0.mk (below_step (by repeat (first | (with_reducible first | exact HB.out | apply below_alloc | apply pw_below_drewN | apply below_drew1 | refine below_set ?_ GE179.out) | exact HB.out)) hb); clear BK179; clear HB; have BK179 := n0_; have HB := n1_; clear n0_ n1_; (try clear hb); (try clear hb2); (try clear hk); (try clear hi)))
      go_ret2
      exact ⟨by first | rfl | (simp [errW_none, errW_some] <;> rfl) | (simp [*, errW_none, errW_some] <;> rfl), by repeat (first | (with_reducible first | exact HB.out | apply below_alloc | apply pw_below_drewN | apply below_drew1 | refine below_set ?_ GE179.out) | exact HB.out)⟩

end Go.Proofs.YteahinhmdeakfaaDoor.PUt
