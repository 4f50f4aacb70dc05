-- functions and contracts as the kit's print.py writes them, the roots chosen in this session (wip/proots.sh)
import Derived.Test.YtfoafigpimhppaaDoorPNmx0
import Derived.Test.YtfoafigpimhppaaDoorStNm
import Derived.Test.YtfoafigpimhppaaDoorPNmx1
namespace Go.Proofs.YtfoafigpimhppaaDoor.PNm
open Go.RowKit Go.Proofs.YtfoafigpimhppaaDoorW.PrintWords Go.Proofs.YtfoafigpimhppaaDoorW.PrintLast Go.Proofs.YtfoafigpimhppaaDoorW.PrintMore
attribute [local go_sem] max2_int min2_int max_two min_two max_three min_three max_four min_four   -- for this text's walks alone
set_option linter.unusedVariables false
set_option linter.unusedSimpArgs false

/-! ### tocsinlaw3_NameKnown: function 6 -/
def tocsinlaw3_NameKnown.f (k : Nat)  : Option (Bool) := (tocsinlaw3_awake.f k).bind fun t138 => (if t138 = true then ((name_Num.f (⟨#[45, 49, 50]⟩ : ByteArray)).bind fun bt139 => ((name_Num.f (⟨#[]⟩ : ByteArray)).bind fun bt141 => ((name_Num.f (⟨#[49, 50, 51, 52, 53, 54, 55, 56, 57, 48, 49, 50, 51]⟩ : ByteArray)).bind fun bt143 => ((name_Num.f (⟨#[43, 49]⟩ : ByteArray)).bind fun bt145 => ((name_Field.f k (⟨#[97, 98, 61, 49]⟩ : ByteArray) (⟨#[97]⟩ : ByteArray)).bind fun bt147 => ((name_Field.f k (⟨#[120, 32, 97, 61, 32, 121]⟩ : ByteArray) (⟨#[97]⟩ : ByteArray)).bind fun bt149 => (if bt139.2 = true then (if bt139.1 = (-12) then (if bt141.2 = true then (some false) else (if bt143.2 = true then (some false) else (if bt145.2 = true then (some false) else (if bt147.2 = true then (some false) else (if bt149.2 = true then (if bt149.1.toList = ([] : List UInt8) then ((name_Good.f (⟨#[]⟩ : ByteArray)).bind fun t151 => (if t151 = true then (some false) else ((name_Good.f (⟨#[49, 97]⟩ : ByteArray)).bind fun t152 => (if t152 = true then (some false) else ((name_Good.f (⟨#[97, 32, 98]⟩ : ByteArray)).bind fun t153 => (if t153 = true then (some false) else ((name_Good.f (⟨#[97, 255]⟩ : ByteArray)).bind fun t154 => (if t154 = true then (some false) else ((name_Good.f (⟨#[97, 50, 51, 52, 53, 54, 55, 56, 57, 48, 49, 50, 51, 52, 53, 54, 55, 56, 57, 122]⟩ : ByteArray)).bind fun t155 => (if t155 = true then ((name_Good.f (⟨#[97, 50, 51, 52, 53, 54, 55, 56, 57, 48, 49, 50, 51, 52, 53, 54, 55, 56, 57, 122, 122]⟩ : ByteArray)).bind fun t156 => (if t156 = true then (some false) else ((name_Len.f (⟨#[255, 254]⟩ : ByteArray)).bind fun t157 => (if t157 = 2 then ((name_Words.f (⟨#[]⟩ : ByteArray)).bind fun t158 => (some ((t158.length : Int) == 0))) else (some false))))) else (some false))))))))))) else (some false)) else (some false)))))) else (some false)) else (some false)))))))) else (some false))
theorem tocsinlaw3_NameKnown.mono : ∀ k, LeO (tocsinlaw3_NameKnown.f k ) (tocsinlaw3_NameKnown.f (k + 1) ) := by
  intro  k
  unfold tocsinlaw3_NameKnown.f
  repeat' first
      | (with_reducible exact name_Field.mono _ _ _)
      | (with_reducible exact tocsinlaw3_awake.mono _)
      | (with_reducible exact LeO.refl _)
      | (with_reducible exact LeO.none _)
      | (with_reducible refine LeO.ite ?_ ?_)
      | (with_reducible refine LeO.bind ?_ (fun _ => ?_))
      | exact name_Field.mono _ _ _
      | exact tocsinlaw3_awake.mono _
      | exact LeO.none _
      | refine LeO.ite ?_ ?_
      | refine LeO.bind ?_ (fun _ => ?_)
set_option maxHeartbeats 8000000 in
set_option maxRecDepth 100000 in
theorem tocsinlaw3_NameKnown.calls (k : Nat)  (r : Bool) (w : World) (hTb : Tab w) (h : tocsinlaw3_NameKnown.f k  = some r) (hr_ : r = true) :
    Calls Tryd.prog 6 #[] w fun e w' => e = .returned (.bool r) ∧ Below w.heap.size w w' := by
  have HTb := Aside0.mk hTb
  clear hTb
  have HB := Aside0.mk (Below.refl w.heap.size w)
  have H : ((tocsinlaw3_awake.f k).bind fun t138 => (if t138 = true then ((name_Num.f (⟨#[45, 49, 50]⟩ : ByteArray)).bind fun bt139 => ((name_Num.f (⟨#[]⟩ : ByteArray)).bind fun bt141 => ((name_Num.f (⟨#[49, 50, 51, 52, 53, 54, 55, 56, 57, 48, 49, 50, 51]⟩ : ByteArray)).bind fun bt143 => ((name_Num.f (⟨#[43, 49]⟩ : ByteArray)).bind fun bt145 => ((name_Field.f k (⟨#[97, 98, 61, 49]⟩ : ByteArray) (⟨#[97]⟩ : ByteArray)).bind fun bt147 => ((name_Field.f k (⟨#[120, 32, 97, 61, 32, 121]⟩ : ByteArray) (⟨#[97]⟩ : ByteArray)).bind fun bt149 => (if bt139.2 = true then (if bt139.1 = (-12) then (if bt141.2 = true then (some false) else (if bt143.2 = true then (some false) else (if bt145.2 = true then (some false) else (if bt147.2 = true then (some false) else (if bt149.2 = true then (if bt149.1.toList = ([] : List UInt8) then ((name_Good.f (⟨#[]⟩ : ByteArray)).bind fun t151 => (if t151 = true then (some false) else ((name_Good.f (⟨#[49, 97]⟩ : ByteArray)).bind fun t152 => (if t152 = true then (some false) else ((name_Good.f (⟨#[97, 32, 98]⟩ : ByteArray)).bind fun t153 => (if t153 = true then (some false) else ((name_Good.f (⟨#[97, 255]⟩ : ByteArray)).bind fun t154 => (if t154 = true then (some false) else ((name_Good.f (⟨#[97, 50, 51, 52, 53, 54, 55, 56, 57, 48, 49, 50, 51, 52, 53, 54, 55, 56, 57, 122]⟩ : ByteArray)).bind fun t155 => (if t155 = true then ((name_Good.f (⟨#[97, 50, 51, 52, 53, 54, 55, 56, 57, 48, 49, 50, 51, 52, 53, 54, 55, 56, 57, 122, 122]⟩ : ByteArray)).bind fun t156 => (if t156 = true then (some false) else ((name_Len.f (⟨#[255, 254]⟩ : ByteArray)).bind fun t157 => (if t157 = 2 then ((name_Words.f (⟨#[]⟩ : ByteArray)).bind fun t158 => (some ((t158.length : Int) == 0))) else (some false))))) else (some false))))))))))) else (some false)) else (some false)))))) else (some false)) else (some false)))))))) else (some false))) = some r := h
  clear h
  replace H := Option.bind_eq_some_iff.mp H
  obtain ⟨t138, A10, H⟩ := H
  replace H : (if t138 = true then ((name_Num.f (⟨#[45, 49, 50]⟩ : ByteArray)).bind fun bt139 => ((name_Num.f (⟨#[]⟩ : ByteArray)).bind fun bt141 => ((name_Num.f (⟨#[49, 50, 51, 52, 53, 54, 55, 56, 57, 48, 49, 50, 51]⟩ : ByteArray)).bind fun bt143 => ((name_Num.f (⟨#[43, 49]⟩ : ByteArray)).bind fun bt145 => ((name_Field.f k (⟨#[97, 98, 61, 49]⟩ : ByteArray) (⟨#[97]⟩ : ByteArray)).bind fun bt147 => ((name_Field.f k (⟨#[120, 32, 97, 61, 32, 121]⟩ : ByteArray) (⟨#[97]⟩ : ByteArray)).bind fun bt149 => (if bt139.2 = true then (if bt139.1 = (-12) then (if bt141.2 = true then (some false) else (if bt143.2 = true then (some false) else (if bt145.2 = true then (some false) else (if bt147.2 = true then (some false) else (if bt149.2 = true then (if bt149.1.toList = ([] : List UInt8) then ((name_Good.f (⟨#[]⟩ : ByteArray)).bind fun t151 => (if t151 = true then (some false) else ((name_Good.f (⟨#[49, 97]⟩ : ByteArray)).bind fun t152 => (if t152 = true then (some false) else ((name_Good.f (⟨#[97, 32, 98]⟩ : ByteArray)).bind fun t153 => (if t153 = true then (some false) else ((name_Good.f (⟨#[97, 255]⟩ : ByteArray)).bind fun t154 => (if t154 = true then (some false) else ((name_Good.f (⟨#[97, 50, 51, 52, 53, 54, 55, 56, 57, 48, 49, 50, 51, 52, 53, 54, 55, 56, 57, 122]⟩ : ByteArray)).bind fun t155 => (if t155 = true then ((name_Good.f (⟨#[97, 50, 51, 52, 53, 54, 55, 56, 57, 48, 49, 50, 51, 52, 53, 54, 55, 56, 57, 122, 122]⟩ : ByteArray)).bind fun t156 => (if t156 = true then (some false) else ((name_Len.f (⟨#[255, 254]⟩ : ByteArray)).bind fun t157 => (if t157 = 2 then ((name_Words.f (⟨#[]⟩ : ByteArray)).bind fun t158 => (some ((t158.length : Int) == 0))) else (some false))))) else (some false))))))))))) else (some false)) else (some false)))))) else (some false)) else (some false)))))))) else (some false)) = some r := H
  have A1 := Aside0.mk A10
  clear A10
  by_cases c2 : t138 = true
  · subst c2
    have H1 : ((name_Num.f (⟨#[45, 49, 50]⟩ : ByteArray)).bind fun bt139 => ((name_Num.f (⟨#[]⟩ : ByteArray)).bind fun bt141 => ((name_Num.f (⟨#[49, 50, 51, 52, 53, 54, 55, 56, 57, 48, 49, 50, 51]⟩ : ByteArray)).bind fun bt143 => ((name_Num.f (⟨#[43, 49]⟩ : ByteArray)).bind fun bt145 => ((name_Field.f k (⟨#[97, 98, 61, 49]⟩ : ByteArray) (⟨#[97]⟩ : ByteArray)).bind fun bt147 => ((name_Field.f k (⟨#[120, 32, 97, 61, 32, 121]⟩ : ByteArray) (⟨#[97]⟩ : ByteArray)).bind fun bt149 => (if bt139.2 = true then (if bt139.1 = (-12) then (if bt141.2 = true then (some false) else (if bt143.2 = true then (some false) else (if bt145.2 = true then (some false) else (if bt147.2 = true then (some false) else (if bt149.2 = true then (if bt149.1.toList = ([] : List UInt8) then ((name_Good.f (⟨#[]⟩ : ByteArray)).bind fun t151 => (if t151 = true then (some false) else ((name_Good.f (⟨#[49, 97]⟩ : ByteArray)).bind fun t152 => (if t152 = true then (some false) else ((name_Good.f (⟨#[97, 32, 98]⟩ : ByteArray)).bind fun t153 => (if t153 = true then (some false) else ((name_Good.f (⟨#[97, 255]⟩ : ByteArray)).bind fun t154 => (if t154 = true then (some false) else ((name_Good.f (⟨#[97, 50, 51, 52, 53, 54, 55, 56, 57, 48, 49, 50, 51, 52, 53, 54, 55, 56, 57, 122]⟩ : ByteArray)).bind fun t155 => (if t155 = true then ((name_Good.f (⟨#[97, 50, 51, 52, 53, 54, 55, 56, 57, 48, 49, 50, 51, 52, 53, 54, 55, 56, 57, 122, 122]⟩ : ByteArray)).bind fun t156 => (if t156 = true then (some false) else ((name_Len.f (⟨#[255, 254]⟩ : ByteArray)).bind fun t157 => (if t157 = 2 then ((name_Words.f (⟨#[]⟩ : ByteArray)).bind fun t158 => (some ((t158.length : Int) == 0))) else (some false))))) else (some false))))))))))) else (some false)) else (some false)))))) else (some false)) else (some false)))))))) = some r := by rw [if_pos rfl] at H; exact H
    clear H
    have H := H1
    clear H1
    replace H := Option.bind_eq_some_iff.mp H
    obtain ⟨⟨t139, t140⟩, A30, H⟩ := H
    replace H : ((name_Num.f (⟨#[]⟩ : ByteArray)).bind fun bt141 => ((name_Num.f (⟨#[49, 50, 51, 52, 53, 54, 55, 56, 57, 48, 49, 50, 51]⟩ : ByteArray)).bind fun bt143 => ((name_Num.f (⟨#[43, 49]⟩ : ByteArray)).bind fun bt145 => ((name_Field.f k (⟨#[97, 98, 61, 49]⟩ : ByteArray) (⟨#[97]⟩ : ByteArray)).bind fun bt147 => ((name_Field.f k (⟨#[120, 32, 97, 61, 32, 121]⟩ : ByteArray) (⟨#[97]⟩ : ByteArray)).bind fun bt149 => (if t140 = true then (if t139 = (-12) then (if bt141.2 = true then (some false) else (if bt143.2 = true then (some false) else (if bt145.2 = true then (some false) else (if bt147.2 = true then (some false) else (if bt149.2 = true then (if bt149.1.toList = ([] : List UInt8) then ((name_Good.f (⟨#[]⟩ : ByteArray)).bind fun t151 => (if t151 = true then (some false) else ((name_Good.f (⟨#[49, 97]⟩ : ByteArray)).bind fun t152 => (if t152 = true then (some false) else ((name_Good.f (⟨#[97, 32, 98]⟩ : ByteArray)).bind fun t153 => (if t153 = true then (some false) else ((name_Good.f (⟨#[97, 255]⟩ : ByteArray)).bind fun t154 => (if t154 = true then (some false) else ((name_Good.f (⟨#[97, 50, 51, 52, 53, 54, 55, 56, 57, 48, 49, 50, 51, 52, 53, 54, 55, 56, 57, 122]⟩ : ByteArray)).bind fun t155 => (if t155 = true then ((name_Good.f (⟨#[97, 50, 51, 52, 53, 54, 55, 56, 57, 48, 49, 50, 51, 52, 53, 54, 55, 56, 57, 122, 122]⟩ : ByteArray)).bind fun t156 => (if t156 = true then (some false) else ((name_Len.f (⟨#[255, 254]⟩ : ByteArray)).bind fun t157 => (if t157 = 2 then ((name_Words.f (⟨#[]⟩ : ByteArray)).bind fun t158 => (some ((t158.length : Int) == 0))) else (some false))))) else (some false))))))))))) else (some false)) else (some false)))))) else (some false)) else (some false))))))) = some r := H
    have A3 := Aside0.mk A30
    clear A30
    replace H := Option.bind_eq_some_iff.mp H
    obtain ⟨⟨t141, t142⟩, A40, H⟩ := H
    replace H : ((name_Num.f (⟨#[49, 50, 51, 52, 53, 54, 55, 56, 57, 48, 49, 50, 51]⟩ : ByteArray)).bind fun bt143 => ((name_Num.f (⟨#[43, 49]⟩ : ByteArray)).bind fun bt145 => ((name_Field.f k (⟨#[97, 98, 61, 49]⟩ : ByteArray) (⟨#[97]⟩ : ByteArray)).bind fun bt147 => ((name_Field.f k (⟨#[120, 32, 97, 61, 32, 121]⟩ : ByteArray) (⟨#[97]⟩ : ByteArray)).bind fun bt149 => (if t140 = true then (if t139 = (-12) then (if t142 = true then (some false) else (if bt143.2 = true then (some false) else (if bt145.2 = true then (some false) else (if bt147.2 = true then (some false) else (if bt149.2 = true then (if bt149.1.toList = ([] : List UInt8) then ((name_Good.f (⟨#[]⟩ : ByteArray)).bind fun t151 => (if t151 = true then (some false) else ((name_Good.f (⟨#[49, 97]⟩ : ByteArray)).bind fun t152 => (if t152 = true then (some false) else ((name_Good.f (⟨#[97, 32, 98]⟩ : ByteArray)).bind fun t153 => (if t153 = true then (some false) else ((name_Good.f (⟨#[97, 255]⟩ : ByteArray)).bind fun t154 => (if t154 = true then (some false) else ((name_Good.f (⟨#[97, 50, 51, 52, 53, 54, 55, 56, 57, 48, 49, 50, 51, 52, 53, 54, 55, 56, 57, 122]⟩ : ByteArray)).bind fun t155 => (if t155 = true then ((name_Good.f (⟨#[97, 50, 51, 52, 53, 54, 55, 56, 57, 48, 49, 50, 51, 52, 53, 54, 55, 56, 57, 122, 122]⟩ : ByteArray)).bind fun t156 => (if t156 = true then (some false) else ((name_Len.f (⟨#[255, 254]⟩ : ByteArray)).bind fun t157 => (if t157 = 2 then ((name_Words.f (⟨#[]⟩ : ByteArray)).bind fun t158 => (some ((t158.length : Int) == 0))) else (some false))))) else (some false))))))))))) else (some false)) else (some false)))))) else (some false)) else (some false)))))) = some r := H
    have A4 := Aside0.mk A40
    clear A40
    replace H := Option.bind_eq_some_iff.mp H
    obtain ⟨⟨t143, t144⟩, A50, H⟩ := H
    replace H : ((name_Num.f (⟨#[43, 49]⟩ : ByteArray)).bind fun bt145 => ((name_Field.f k (⟨#[97, 98, 61, 49]⟩ : ByteArray) (⟨#[97]⟩ : ByteArray)).bind fun bt147 => ((name_Field.f k (⟨#[120, 32, 97, 61, 32, 121]⟩ : ByteArray) (⟨#[97]⟩ : ByteArray)).bind fun bt149 => (if t140 = true then (if t139 = (-12) then (if t142 = true then (some false) else (if t144 = true then (some false) else (if bt145.2 = true then (some false) else (if bt147.2 = true then (some false) else (if bt149.2 = true then (if bt149.1.toList = ([] : List UInt8) then ((name_Good.f (⟨#[]⟩ : ByteArray)).bind fun t151 => (if t151 = true then (some false) else ((name_Good.f (⟨#[49, 97]⟩ : ByteArray)).bind fun t152 => (if t152 = true then (some false) else ((name_Good.f (⟨#[97, 32, 98]⟩ : ByteArray)).bind fun t153 => (if t153 = true then (some false) else ((name_Good.f (⟨#[97, 255]⟩ : ByteArray)).bind fun t154 => (if t154 = true then (some false) else ((name_Good.f (⟨#[97, 50, 51, 52, 53, 54, 55, 56, 57, 48, 49, 50, 51, 52, 53, 54, 55, 56, 57, 122]⟩ : ByteArray)).bind fun t155 => (if t155 = true then ((name_Good.f (⟨#[97, 50, 51, 52, 53, 54, 55, 56, 57, 48, 49, 50, 51, 52, 53, 54, 55, 56, 57, 122, 122]⟩ : ByteArray)).bind fun t156 => (if t156 = true then (some false) else ((name_Len.f (⟨#[255, 254]⟩ : ByteArray)).bind fun t157 => (if t157 = 2 then ((name_Words.f (⟨#[]⟩ : ByteArray)).bind fun t158 => (some ((t158.length : Int) == 0))) else (some false))))) else (some false))))))))))) else (some false)) else (some false)))))) else (some false)) else (some false))))) = some r := H
    have A5 := Aside0.mk A50
    clear A50
    replace H := Option.bind_eq_some_iff.mp H
    obtain ⟨⟨t145, t146⟩, A60, H⟩ := H
    replace H : ((name_Field.f k (⟨#[97, 98, 61, 49]⟩ : ByteArray) (⟨#[97]⟩ : ByteArray)).bind fun bt147 => ((name_Field.f k (⟨#[120, 32, 97, 61, 32, 121]⟩ : ByteArray) (⟨#[97]⟩ : ByteArray)).bind fun bt149 => (if t140 = true then (if t139 = (-12) then (if t142 = true then (some false) else (if t144 = true then (some false) else (if t146 = true then (some false) else (if bt147.2 = true then (some false) else (if bt149.2 = true then (if bt149.1.toList = ([] : List UInt8) then ((name_Good.f (⟨#[]⟩ : ByteArray)).bind fun t151 => (if t151 = true then (some false) else ((name_Good.f (⟨#[49, 97]⟩ : ByteArray)).bind fun t152 => (if t152 = true then (some false) else ((name_Good.f (⟨#[97, 32, 98]⟩ : ByteArray)).bind fun t153 => (if t153 = true then (some false) else ((name_Good.f (⟨#[97, 255]⟩ : ByteArray)).bind fun t154 => (if t154 = true then (some false) else ((name_Good.f (⟨#[97, 50, 51, 52, 53, 54, 55, 56, 57, 48, 49, 50, 51, 52, 53, 54, 55, 56, 57, 122]⟩ : ByteArray)).bind fun t155 => (if t155 = true then ((name_Good.f (⟨#[97, 50, 51, 52, 53, 54, 55, 56, 57, 48, 49, 50, 51, 52, 53, 54, 55, 56, 57, 122, 122]⟩ : ByteArray)).bind fun t156 => (if t156 = true then (some false) else ((name_Len.f (⟨#[255, 254]⟩ : ByteArray)).bind fun t157 => (if t157 = 2 then ((name_Words.f (⟨#[]⟩ : ByteArray)).bind fun t158 => (some ((t158.length : Int) == 0))) else (some false))))) else (some false))))))))))) else (some false)) else (some false)))))) else (some false)) else (some false)))) = some r := H
    have A6 := Aside0.mk A60
    clear A60
    replace H := Option.bind_eq_some_iff.mp H
    obtain ⟨⟨t147, t148⟩, A70, H⟩ := H
    replace H : ((name_Field.f k (⟨#[120, 32, 97, 61, 32, 121]⟩ : ByteArray) (⟨#[97]⟩ : ByteArray)).bind fun bt149 => (if t140 = true then (if t139 = (-12) then (if t142 = true then (some false) else (if t144 = true then (some false) else (if t146 = true then (some false) else (if t148 = true then (some false) else (if bt149.2 = true then (if bt149.1.toList = ([] : List UInt8) then ((name_Good.f (⟨#[]⟩ : ByteArray)).bind fun t151 => (if t151 = true then (some false) else ((name_Good.f (⟨#[49, 97]⟩ : ByteArray)).bind fun t152 => (if t152 = true then (some false) else ((name_Good.f (⟨#[97, 32, 98]⟩ : ByteArray)).bind fun t153 => (if t153 = true then (some false) else ((name_Good.f (⟨#[97, 255]⟩ : ByteArray)).bind fun t154 => (if t154 = true then (some false) else ((name_Good.f (⟨#[97, 50, 51, 52, 53, 54, 55, 56, 57, 48, 49, 50, 51, 52, 53, 54, 55, 56, 57, 122]⟩ : ByteArray)).bind fun t155 => (if t155 = true then ((name_Good.f (⟨#[97, 50, 51, 52, 53, 54, 55, 56, 57, 48, 49, 50, 51, 52, 53, 54, 55, 56, 57, 122, 122]⟩ : ByteArray)).bind fun t156 => (if t156 = true then (some false) else ((name_Len.f (⟨#[255, 254]⟩ : ByteArray)).bind fun t157 => (if t157 = 2 then ((name_Words.f (⟨#[]⟩ : ByteArray)).bind fun t158 => (some ((t158.length : Int) == 0))) else (some false))))) else (some false))))))))))) else (some false)) else (some false)))))) else (some false)) else (some false))) = some r := H
    have A7 := Aside0.mk A70
    clear A70
    replace H := Option.bind_eq_some_iff.mp H
    obtain ⟨⟨t149, t150⟩, A80, H⟩ := H
    replace H : (if t140 = true then (if t139 = (-12) then (if t142 = true then (some false) else (if t144 = true then (some false) else (if t146 = true then (some false) else (if t148 = true then (some false) else (if t150 = true then (if t149.toList = ([] : List UInt8) then ((name_Good.f (⟨#[]⟩ : ByteArray)).bind fun t151 => (if t151 = true then (some false) else ((name_Good.f (⟨#[49, 97]⟩ : ByteArray)).bind fun t152 => (if t152 = true then (some false) else ((name_Good.f (⟨#[97, 32, 98]⟩ : ByteArray)).bind fun t153 => (if t153 = true then (some false) else ((name_Good.f (⟨#[97, 255]⟩ : ByteArray)).bind fun t154 => (if t154 = true then (some false) else ((name_Good.f (⟨#[97, 50, 51, 52, 53, 54, 55, 56, 57, 48, 49, 50, 51, 52, 53, 54, 55, 56, 57, 122]⟩ : ByteArray)).bind fun t155 => (if t155 = true then ((name_Good.f (⟨#[97, 50, 51, 52, 53, 54, 55, 56, 57, 48, 49, 50, 51, 52, 53, 54, 55, 56, 57, 122, 122]⟩ : ByteArray)).bind fun t156 => (if t156 = true then (some false) else ((name_Len.f (⟨#[255, 254]⟩ : ByteArray)).bind fun t157 => (if t157 = 2 then ((name_Words.f (⟨#[]⟩ : ByteArray)).bind fun t158 => (some ((t158.length : Int) == 0))) else (some false))))) else (some false))))))))))) else (some false)) else (some false)))))) else (some false)) else (some false)) = some r := H
    have A8 := Aside0.mk A80
    clear A80
    by_cases c9 : t140 = true
    · subst c9
      have H1 : (if t139 = (-12) then (if t142 = true then (some false) else (if t144 = true then (some false) else (if t146 = true then (some false) else (if t148 = true then (some false) else (if t150 = true then (if t149.toList = ([] : List UInt8) then ((name_Good.f (⟨#[]⟩ : ByteArray)).bind fun t151 => (if t151 = true then (some false) else ((name_Good.f (⟨#[49, 97]⟩ : ByteArray)).bind fun t152 => (if t152 = true then (some false) else ((name_Good.f (⟨#[97, 32, 98]⟩ : ByteArray)).bind fun t153 => (if t153 = true then (some false) else ((name_Good.f (⟨#[97, 255]⟩ : ByteArray)).bind fun t154 => (if t154 = true then (some false) else ((name_Good.f (⟨#[97, 50, 51, 52, 53, 54, 55, 56, 57, 48, 49, 50, 51, 52, 53, 54, 55, 56, 57, 122]⟩ : ByteArray)).bind fun t155 => (if t155 = true then ((name_Good.f (⟨#[97, 50, 51, 52, 53, 54, 55, 56, 57, 48, 49, 50, 51, 52, 53, 54, 55, 56, 57, 122, 122]⟩ : ByteArray)).bind fun t156 => (if t156 = true then (some false) else ((name_Len.f (⟨#[255, 254]⟩ : ByteArray)).bind fun t157 => (if t157 = 2 then ((name_Words.f (⟨#[]⟩ : ByteArray)).bind fun t158 => (some ((t158.length : Int) == 0))) else (some false))))) else (some false))))))))))) else (some false)) else (some false)))))) else (some false)) = some r := by rw [if_pos rfl] at H; exact H
      clear H
      have H := H1
      clear H1
      by_cases c10 : t139 = (-12)
      · rw [if_pos c10] at H
        have c10b0 : (t139 == (-12)) = true := beq_iff_eq.mpr c10
        have c10b1 : (t139 != (-12)) = false := bne_eq_false_iff_eq.mpr c10
        clear c10
        by_cases c11 : t142 = true
        · subst c11
          have H1 : (some false) = some r := by rw [if_pos rfl] at H; exact H
          clear H
          have H := H1
          clear H1
          obtain rfl := Option.some.inj H
          exact absurd hr_ (by decide)
        · replace c11 := Bool.eq_false_iff.mpr c11
          subst c11
          have H1 : (if t144 = true then (some false) else (if t146 = true then (some false) else (if t148 = true then (some false) else (if t150 = true then (if t149.toList = ([] : List UInt8) then ((name_Good.f (⟨#[]⟩ : ByteArray)).bind fun t151 => (if t151 = true then (some false) else ((name_Good.f (⟨#[49, 97]⟩ : ByteArray)).bind fun t152 => (if t152 = true then (some false) else ((name_Good.f (⟨#[97, 32, 98]⟩ : ByteArray)).bind fun t153 => (if t153 = true then (some false) else ((name_Good.f (⟨#[97, 255]⟩ : ByteArray)).bind fun t154 => (if t154 = true then (some false) else ((name_Good.f (⟨#[97, 50, 51, 52, 53, 54, 55, 56, 57, 48, 49, 50, 51, 52, 53, 54, 55, 56, 57, 122]⟩ : ByteArray)).bind fun t155 => (if t155 = true then ((name_Good.f (⟨#[97, 50, 51, 52, 53, 54, 55, 56, 57, 48, 49, 50, 51, 52, 53, 54, 55, 56, 57, 122, 122]⟩ : ByteArray)).bind fun t156 => (if t156 = true then (some false) else ((name_Len.f (⟨#[255, 254]⟩ : ByteArray)).bind fun t157 => (if t157 = 2 then ((name_Words.f (⟨#[]⟩ : ByteArray)).bind fun t158 => (some ((t158.length : Int) == 0))) else (some false))))) else (some false))))))))))) else (some false)) else (some false))))) = some r := by rw [if_neg (show ¬ (false = true) by decide)] at H; exact H
          clear H
          have H := H1
          clear H1
          by_cases c19 : t144 = true
          · subst c19
            have H1 : (some false) = some r := by rw [if_pos rfl] at H; exact H
            clear H
            have H := H1
            clear H1
            obtain rfl := Option.some.inj H
            exact absurd hr_ (by decide)
          · replace c19 := Bool.eq_false_iff.mpr c19
            subst c19
            have H1 : (if t146 = true then (some false) else (if t148 = true then (some false) else (if t150 = true then (if t149.toList = ([] : List UInt8) then ((name_Good.f (⟨#[]⟩ : ByteArray)).bind fun t151 => (if t151 = true then (some false) else ((name_Good.f (⟨#[49, 97]⟩ : ByteArray)).bind fun t152 => (if t152 = true then (some false) else ((name_Good.f (⟨#[97, 32, 98]⟩ : ByteArray)).bind fun t153 => (if t153 = true then (some false) else ((name_Good.f (⟨#[97, 255]⟩ : ByteArray)).bind fun t154 => (if t154 = true then (some false) else ((name_Good.f (⟨#[97, 50, 51, 52, 53, 54, 55, 56, 57, 48, 49, 50, 51, 52, 53, 54, 55, 56, 57, 122]⟩ : ByteArray)).bind fun t155 => (if t155 = true then ((name_Good.f (⟨#[97, 50, 51, 52, 53, 54, 55, 56, 57, 48, 49, 50, 51, 52, 53, 54, 55, 56, 57, 122, 122]⟩ : ByteArray)).bind fun t156 => (if t156 = true then (some false) else ((name_Len.f (⟨#[255, 254]⟩ : ByteArray)).bind fun t157 => (if t157 = 2 then ((name_Words.f (⟨#[]⟩ : ByteArray)).bind fun t158 => (some ((t158.length : Int) == 0))) else (some false))))) else (some false))))))))))) else (some false)) else (some false)))) = some r := by rw [if_neg (show ¬ (false = true) by decide)] at H; exact H
            clear H
            have H := H1
            clear H1
            by_cases c27 : t146 = true
            · subst c27
              have H1 : (some false) = some r := by rw [if_pos rfl] at H; exact H
              clear H
              have H := H1
              clear H1
              obtain rfl := Option.some.inj H
              exact absurd hr_ (by decide)
            · replace c27 := Bool.eq_false_iff.mpr c27
              subst c27
              have H1 : (if t148 = true then (some false) else (if t150 = true then (if t149.toList = ([] : List UInt8) then ((name_Good.f (⟨#[]⟩ : ByteArray)).bind fun t151 => (if t151 = true then (some false) else ((name_Good.f (⟨#[49, 97]⟩ : ByteArray)).bind fun t152 => (if t152 = true then (some false) else ((name_Good.f (⟨#[97, 32, 98]⟩ : ByteArray)).bind fun t153 => (if t153 = true then (some false) else ((name_Good.f (⟨#[97, 255]⟩ : ByteArray)).bind fun t154 => (if t154 = true then (some false) else ((name_Good.f (⟨#[97, 50, 51, 52, 53, 54, 55, 56, 57, 48, 49, 50, 51, 52, 53, 54, 55, 56, 57, 122]⟩ : ByteArray)).bind fun t155 => (if t155 = true then ((name_Good.f (⟨#[97, 50, 51, 52, 53, 54, 55, 56, 57, 48, 49, 50, 51, 52, 53, 54, 55, 56, 57, 122, 122]⟩ : ByteArray)).bind fun t156 => (if t156 = true then (some false) else ((name_Len.f (⟨#[255, 254]⟩ : ByteArray)).bind fun t157 => (if t157 = 2 then ((name_Words.f (⟨#[]⟩ : ByteArray)).bind fun t158 => (some ((t158.length : Int) == 0))) else (some false))))) else (some false))))))))))) else (some false)) else (some false))) = some r := by rw [if_neg (show ¬ (false = true) by decide)] at H; exact H
              clear H
              have H := H1
              clear H1
              by_cases c35 : t148 = true
              · subst c35
                have H1 : (some false) = some r := by rw [if_pos rfl] at H; exact H
                clear H
                have H := H1
                clear H1
                obtain rfl := Option.some.inj H
                exact absurd hr_ (by decide)
              · replace c35 := Bool.eq_false_iff.mpr c35
                subst c35
                have H1 : (if t150 = true then (if t149.toList = ([] : List UInt8) then ((name_Good.f (⟨#[]⟩ : ByteArray)).bind fun t151 => (if t151 = true then (some false) else ((name_Good.f (⟨#[49, 97]⟩ : ByteArray)).bind fun t152 => (if t152 = true then (some false) else ((name_Good.f (⟨#[97, 32, 98]⟩ : ByteArray)).bind fun t153 => (if t153 = true then (some false) else ((name_Good.f (⟨#[97, 255]⟩ : ByteArray)).bind fun t154 => (if t154 = true then (some false) else ((name_Good.f (⟨#[97, 50, 51, 52, 53, 54, 55, 56, 57, 48, 49, 50, 51, 52, 53, 54, 55, 56, 57, 122]⟩ : ByteArray)).bind fun t155 => (if t155 = true then ((name_Good.f (⟨#[97, 50, 51, 52, 53, 54, 55, 56, 57, 48, 49, 50, 51, 52, 53, 54, 55, 56, 57, 122, 122]⟩ : ByteArray)).bind fun t156 => (if t156 = true then (some false) else ((name_Len.f (⟨#[255, 254]⟩ : ByteArray)).bind fun t157 => (if t157 = 2 then ((name_Words.f (⟨#[]⟩ : ByteArray)).bind fun t158 => (some ((t158.length : Int) == 0))) else (some false))))) else (some false))))))))))) else (some false)) else (some false)) = some r := by rw [if_neg (show ¬ (false = true) by decide)] at H; exact H
                clear H
                have H := H1
                clear H1
                by_cases c43 : t150 = true
                · subst c43
                  have H1 : (if t149.toList = ([] : List UInt8) then ((name_Good.f (⟨#[]⟩ : ByteArray)).bind fun t151 => (if t151 = true then (some false) else ((name_Good.f (⟨#[49, 97]⟩ : ByteArray)).bind fun t152 => (if t152 = true then (some false) else ((name_Good.f (⟨#[97, 32, 98]⟩ : ByteArray)).bind fun t153 => (if t153 = true then (some false) else ((name_Good.f (⟨#[97, 255]⟩ : ByteArray)).bind fun t154 => (if t154 = true then (some false) else ((name_Good.f (⟨#[97, 50, 51, 52, 53, 54, 55, 56, 57, 48, 49, 50, 51, 52, 53, 54, 55, 56, 57, 122]⟩ : ByteArray)).bind fun t155 => (if t155 = true then ((name_Good.f (⟨#[97, 50, 51, 52, 53, 54, 55, 56, 57, 48, 49, 50, 51, 52, 53, 54, 55, 56, 57, 122, 122]⟩ : ByteArray)).bind fun t156 => (if t156 = true then (some false) else ((name_Len.f (⟨#[255, 254]⟩ : ByteArray)).bind fun t157 => (if t157 = 2 then ((name_Words.f (⟨#[]⟩ : ByteArray)).bind fun t158 => (some ((t158.length : Int) == 0))) else (some false))))) else (some false))))))))))) else (some false)) = some r := by rw [if_pos rfl] at H; exact H
                  clear H
                  have H := H1
                  clear H1
                  by_cases c44 : t149.toList = ([] : List UInt8)
                  · rw [if_pos c44] at H
                    have c44b0 : (t149.toList == ([] : List UInt8)) = true := beq_iff_eq.mpr c44
                    have c44b1 : (t149.toList != ([] : List UInt8)) = false := bne_eq_false_iff_eq.mpr c44
                    clear c44
                    replace H := Option.bind_eq_some_iff.mp H
                    obtain ⟨t151, A450, H⟩ := H
                    replace H : (if t151 = true then (some false) else ((name_Good.f (⟨#[49, 97]⟩ : ByteArray)).bind fun t152 => (if t152 = true then (some false) else ((name_Good.f (⟨#[97, 32, 98]⟩ : ByteArray)).bind fun t153 => (if t153 = true then (some false) else ((name_Good.f (⟨#[97, 255]⟩ : ByteArray)).bind fun t154 => (if t154 = true then (some false) else ((name_Good.f (⟨#[97, 50, 51, 52, 53, 54, 55, 56, 57, 48, 49, 50, 51, 52, 53, 54, 55, 56, 57, 122]⟩ : ByteArray)).bind fun t155 => (if t155 = true then ((name_Good.f (⟨#[97, 50, 51, 52, 53, 54, 55, 56, 57, 48, 49, 50, 51, 52, 53, 54, 55, 56, 57, 122, 122]⟩ : ByteArray)).bind fun t156 => (if t156 = true then (some false) else ((name_Len.f (⟨#[255, 254]⟩ : ByteArray)).bind fun t157 => (if t157 = 2 then ((name_Words.f (⟨#[]⟩ : ByteArray)).bind fun t158 => (some ((t158.length : Int) == 0))) else (some false))))) else (some false)))))))))) = some r := H
                    have A45 := Aside0.mk A450
                    clear A450
                    by_cases c46 : t151 = true
                    · subst c46
                      have H1 : (some false) = some r := by rw [if_pos rfl] at H; exact H
                      clear H
                      have H := H1
                      clear H1
                      obtain rfl := Option.some.inj H
                      exact absurd hr_ (by decide)
                    · replace c46 := Bool.eq_false_iff.mpr c46
                      subst c46
                      have H1 : ((name_Good.f (⟨#[49, 97]⟩ : ByteArray)).bind fun t152 => (if t152 = true then (some false) else ((name_Good.f (⟨#[97, 32, 98]⟩ : ByteArray)).bind fun t153 => (if t153 = true then (some false) else ((name_Good.f (⟨#[97, 255]⟩ : ByteArray)).bind fun t154 => (if t154 = true then (some false) else ((name_Good.f (⟨#[97, 50, 51, 52, 53, 54, 55, 56, 57, 48, 49, 50, 51, 52, 53, 54, 55, 56, 57, 122]⟩ : ByteArray)).bind fun t155 => (if t155 = true then ((name_Good.f (⟨#[97, 50, 51, 52, 53, 54, 55, 56, 57, 48, 49, 50, 51, 52, 53, 54, 55, 56, 57, 122, 122]⟩ : ByteArray)).bind fun t156 => (if t156 = true then (some false) else ((name_Len.f (⟨#[255, 254]⟩ : ByteArray)).bind fun t157 => (if t157 = 2 then ((name_Words.f (⟨#[]⟩ : ByteArray)).bind fun t158 => (some ((t158.length : Int) == 0))) else (some false))))) else (some false))))))))) = some r := by rw [if_neg (show ¬ (false = true) by decide)] at H; exact H
                      clear H
                      have H := H1
                      clear H1
                      replace H := Option.bind_eq_some_iff.mp H
                      obtain ⟨t152, A550, H⟩ := H
                      replace H : (if t152 = true then (some false) else ((name_Good.f (⟨#[97, 32, 98]⟩ : ByteArray)).bind fun t153 => (if t153 = true then (some false) else ((name_Good.f (⟨#[97, 255]⟩ : ByteArray)).bind fun t154 => (if t154 = true then (some false) else ((name_Good.f (⟨#[97, 50, 51, 52, 53, 54, 55, 56, 57, 48, 49, 50, 51, 52, 53, 54, 55, 56, 57, 122]⟩ : ByteArray)).bind fun t155 => (if t155 = true then ((name_Good.f (⟨#[97, 50, 51, 52, 53, 54, 55, 56, 57, 48, 49, 50, 51, 52, 53, 54, 55, 56, 57, 122, 122]⟩ : ByteArray)).bind fun t156 => (if t156 = true then (some false) else ((name_Len.f (⟨#[255, 254]⟩ : ByteArray)).bind fun t157 => (if t157 = 2 then ((name_Words.f (⟨#[]⟩ : ByteArray)).bind fun t158 => (some ((t158.length : Int) == 0))) else (some false))))) else (some false)))))))) = some r := H
                      have A55 := Aside0.mk A550
                      clear A550
                      by_cases c56 : t152 = true
                      · subst c56
                        have H1 : (some false) = some r := by rw [if_pos rfl] at H; exact H
                        clear H
                        have H := H1
                        clear H1
                        obtain rfl := Option.some.inj H
                        exact absurd hr_ (by decide)
                      · replace c56 := Bool.eq_false_iff.mpr c56
                        subst c56
                        have H1 : ((name_Good.f (⟨#[97, 32, 98]⟩ : ByteArray)).bind fun t153 => (if t153 = true then (some false) else ((name_Good.f (⟨#[97, 255]⟩ : ByteArray)).bind fun t154 => (if t154 = true then (some false) else ((name_Good.f (⟨#[97, 50, 51, 52, 53, 54, 55, 56, 57, 48, 49, 50, 51, 52, 53, 54, 55, 56, 57, 122]⟩ : ByteArray)).bind fun t155 => (if t155 = true then ((name_Good.f (⟨#[97, 50, 51, 52, 53, 54, 55, 56, 57, 48, 49, 50, 51, 52, 53, 54, 55, 56, 57, 122, 122]⟩ : ByteArray)).bind fun t156 => (if t156 = true then (some false) else ((name_Len.f (⟨#[255, 254]⟩ : ByteArray)).bind fun t157 => (if t157 = 2 then ((name_Words.f (⟨#[]⟩ : ByteArray)).bind fun t158 => (some ((t158.length : Int) == 0))) else (some false))))) else (some false))))))) = some r := by rw [if_neg (show ¬ (false = true) by decide)] at H; exact H
                        clear H
                        have H := H1
                        clear H1
                        replace H := Option.bind_eq_some_iff.mp H
                        obtain ⟨t153, A660, H⟩ := H
                        replace H : (if t153 = true then (some false) else ((name_Good.f (⟨#[97, 255]⟩ : ByteArray)).bind fun t154 => (if t154 = true then (some false) else ((name_Good.f (⟨#[97, 50, 51, 52, 53, 54, 55, 56, 57, 48, 49, 50, 51, 52, 53, 54, 55, 56, 57, 122]⟩ : ByteArray)).bind fun t155 => (if t155 = true then ((name_Good.f (⟨#[97, 50, 51, 52, 53, 54, 55, 56, 57, 48, 49, 50, 51, 52, 53, 54, 55, 56, 57, 122, 122]⟩ : ByteArray)).bind fun t156 => (if t156 = true then (some false) else ((name_Len.f (⟨#[255, 254]⟩ : ByteArray)).bind fun t157 => (if t157 = 2 then ((name_Words.f (⟨#[]⟩ : ByteArray)).bind fun t158 => (some ((t158.length : Int) == 0))) else (some false))))) else (some false)))))) = some r := H
                        have A66 := Aside0.mk A660
                        clear A660
                        by_cases c67 : t153 = true
                        · subst c67
                          have H1 : (some false) = some r := by rw [if_pos rfl] at H; exact H
                          clear H
                          have H := H1
                          clear H1
                          obtain rfl := Option.some.inj H
                          exact absurd hr_ (by decide)
                        · replace c67 := Bool.eq_false_iff.mpr c67
                          subst c67
                          have H1 : ((name_Good.f (⟨#[97, 255]⟩ : ByteArray)).bind fun t154 => (if t154 = true then (some false) else ((name_Good.f (⟨#[97, 50, 51, 52, 53, 54, 55, 56, 57, 48, 49, 50, 51, 52, 53, 54, 55, 56, 57, 122]⟩ : ByteArray)).bind fun t155 => (if t155 = true then ((name_Good.f (⟨#[97, 50, 51, 52, 53, 54, 55, 56, 57, 48, 49, 50, 51, 52, 53, 54, 55, 56, 57, 122, 122]⟩ : ByteArray)).bind fun t156 => (if t156 = true then (some false) else ((name_Len.f (⟨#[255, 254]⟩ : ByteArray)).bind fun t157 => (if t157 = 2 then ((name_Words.f (⟨#[]⟩ : ByteArray)).bind fun t158 => (some ((t158.length : Int) == 0))) else (some false))))) else (some false))))) = some r := by rw [if_neg (show ¬ (false = true) by decide)] at H; exact H
                          clear H
                          have H := H1
                          clear H1
                          replace H := Option.bind_eq_some_iff.mp H
                          obtain ⟨t154, A780, H⟩ := H
                          replace H : (if t154 = true then (some false) else ((name_Good.f (⟨#[97, 50, 51, 52, 53, 54, 55, 56, 57, 48, 49, 50, 51, 52, 53, 54, 55, 56, 57, 122]⟩ : ByteArray)).bind fun t155 => (if t155 = true then ((name_Good.f (⟨#[97, 50, 51, 52, 53, 54, 55, 56, 57, 48, 49, 50, 51, 52, 53, 54, 55, 56, 57, 122, 122]⟩ : ByteArray)).bind fun t156 => (if t156 = true then (some false) else ((name_Len.f (⟨#[255, 254]⟩ : ByteArray)).bind fun t157 => (if t157 = 2 then ((name_Words.f (⟨#[]⟩ : ByteArray)).bind fun t158 => (some ((t158.length : Int) == 0))) else (some false))))) else (some false)))) = some r := H
                          have A78 := Aside0.mk A780
                          clear A780
                          by_cases c79 : t154 = true
                          · subst c79
                            have H1 : (some false) = some r := by rw [if_pos rfl] at H; exact H
                            clear H
                            have H := H1
                            clear H1
                            obtain rfl := Option.some.inj H
                            exact absurd hr_ (by decide)
                          · replace c79 := Bool.eq_false_iff.mpr c79
                            subst c79
                            have H1 : ((name_Good.f (⟨#[97, 50, 51, 52, 53, 54, 55, 56, 57, 48, 49, 50, 51, 52, 53, 54, 55, 56, 57, 122]⟩ : ByteArray)).bind fun t155 => (if t155 = true then ((name_Good.f (⟨#[97, 50, 51, 52, 53, 54, 55, 56, 57, 48, 49, 50, 51, 52, 53, 54, 55, 56, 57, 122, 122]⟩ : ByteArray)).bind fun t156 => (if t156 = true then (some false) else ((name_Len.f (⟨#[255, 254]⟩ : ByteArray)).bind fun t157 => (if t157 = 2 then ((name_Words.f (⟨#[]⟩ : ByteArray)).bind fun t158 => (some ((t158.length : Int) == 0))) else (some false))))) else (some false))) = some r := by rw [if_neg (show ¬ (false = true) by decide)] at H; exact H
                            clear H
                            have H := H1
                            clear H1
                            replace H := Option.bind_eq_some_iff.mp H
                            obtain ⟨t155, A910, H⟩ := H
                            replace H : (if t155 = true then ((name_Good.f (⟨#[97, 50, 51, 52, 53, 54, 55, 56, 57, 48, 49, 50, 51, 52, 53, 54, 55, 56, 57, 122, 122]⟩ : ByteArray)).bind fun t156 => (if t156 = true then (some false) else ((name_Len.f (⟨#[255, 254]⟩ : ByteArray)).bind fun t157 => (if t157 = 2 then ((name_Words.f (⟨#[]⟩ : ByteArray)).bind fun t158 => (some ((t158.length : Int) == 0))) else (some false))))) else (some false)) = some r := H
                            have A91 := Aside0.mk A910
                            clear A910
                            by_cases c92 : t155 = true
                            · subst c92
                              have H1 : ((name_Good.f (⟨#[97, 50, 51, 52, 53, 54, 55, 56, 57, 48, 49, 50, 51, 52, 53, 54, 55, 56, 57, 122, 122]⟩ : ByteArray)).bind fun t156 => (if t156 = true then (some false) else ((name_Len.f (⟨#[255, 254]⟩ : ByteArray)).bind fun t157 => (if t157 = 2 then ((name_Words.f (⟨#[]⟩ : ByteArray)).bind fun t158 => (some ((t158.length : Int) == 0))) else (some false))))) = some r := by rw [if_pos rfl] at H; exact H
                              clear H
                              have H := H1
                              clear H1
                              replace H := Option.bind_eq_some_iff.mp H
                              obtain ⟨t156, A930, H⟩ := H
                              replace H : (if t156 = true then (some false) else ((name_Len.f (⟨#[255, 254]⟩ : ByteArray)).bind fun t157 => (if t157 = 2 then ((name_Words.f (⟨#[]⟩ : ByteArray)).bind fun t158 => (some ((t158.length : Int) == 0))) else (some false)))) = some r := H
                              have A93 := Aside0.mk A930
                              clear A930
                              by_cases c94 : t156 = true
                              · subst c94
                                have H1 : (some false) = some r := by rw [if_pos rfl] at H; exact H
                                clear H
                                have H := H1
                                clear H1
                                obtain rfl := Option.some.inj H
                                exact absurd hr_ (by decide)
                              · replace c94 := Bool.eq_false_iff.mpr c94
                                subst c94
                                have H1 : ((name_Len.f (⟨#[255, 254]⟩ : ByteArray)).bind fun t157 => (if t157 = 2 then ((name_Words.f (⟨#[]⟩ : ByteArray)).bind fun t158 => (some ((t158.length : Int) == 0))) else (some false))) = some r := by rw [if_neg (show ¬ (false = true) by decide)] at H; exact H
                                clear H
                                have H := H1
                                clear H1
                                replace H := Option.bind_eq_some_iff.mp H
                                obtain ⟨t157, A1080, H⟩ := H
                                replace H : (if t157 = 2 then ((name_Words.f (⟨#[]⟩ : ByteArray)).bind fun t158 => (some ((t158.length : Int) == 0))) else (some false)) = some r := H
                                have A108 := Aside0.mk A1080
                                clear A1080
                                by_cases c109 : t157 = 2
                                · rw [if_pos c109] at H
                                  have c109b0 : (t157 == 2) = true := beq_iff_eq.mpr c109
                                  have c109b1 : (t157 != 2) = false := bne_eq_false_iff_eq.mpr c109
                                  clear c109
                                  replace H := Option.bind_eq_some_iff.mp H
                                  obtain ⟨t158, A1100, H⟩ := H
                                  replace H : (some ((t158.length : Int) == 0)) = some r := H
                                  have A110 := Aside0.mk A1100
                                  clear A1100
                                  obtain rfl := Option.some.inj H
                                  first
                                  | exact absurd hr_ (by decide)
                                  | go_enter Tryd.func6, Tryd.ntmps6
                                    go_wp2_with (first | ((with_reducible refine gate_callee (f := 9) rfl ?_); refine goesL_ (some 13) rfl rfl Tryd.func9 (by kernel_rfl) rfl #[] rfl (by (try simp only [List.map_toArray, List.map_cons, List.map_nil]); first | done | rfl | (simp only [List.length_drop, List.length_take]; rfl)) ?_; (with_reducible refine (tocsinlaw3_awake.calls k  true _ (tab_below HTb.out (by repeat (first | (with_reducible first | exact HB.out | apply below_alloc | apply pw_below_drewN | apply below_drew1) | exact HB.out))) A1.out).mono ?_); rintro e w111 ⟨rfl, hb⟩; refine ⟨_, rfl, ?_⟩; have n0_ := Aside0.mk (below_step (by repeat (first | (with_reducible first | exact HB.out | apply below_alloc | apply pw_below_drewN | apply below_drew1) | exact HB.out)) hb); clear HB; have HB := n0_; clear n0_; (try clear hb); (try clear hb2); (try clear hk); (try clear hi)) | ((with_reducible refine gate_callee (f := 16) rfl ?_); refine goesL_ (some 16) rfl rfl Tryd.func16 (by kernel_rfl) rfl #[.string (⟨#[45, 49, 50]⟩ : ByteArray)] rfl (by (try simp only [List.map_toArray, List.map_cons, List.map_nil]); first | done | rfl | (simp only [List.length_drop, List.length_take]; rfl)) ?_; (with_reducible refine (name_Num.calls (⟨#[45, 49, 50]⟩ : ByteArray) t139 true _ A3.out).mono ?_); rintro e w112 ⟨rfl, hb⟩; refine ⟨_, rfl, ?_⟩; have n0_ := Aside0.mk (below_step (by repeat (first | (with_reducible first | exact HB.out | apply below_alloc | apply pw_below_drewN | apply below_drew1) | exact HB.out)) hb); clear HB; have HB := n0_; clear n0_; (try clear hb); (try clear hb2); (try clear hk); (try clear hi)) | ((with_reducible refine gate_callee (f := 16) rfl ?_); refine goesL_ (some 20) rfl rfl Tryd.func16 (by kernel_rfl) rfl #[.string (⟨#[]⟩ : ByteArray)] rfl (by (try simp only [List.map_toArray, List.map_cons, List.map_nil]); first | done | rfl | (simp only [List.length_drop, List.length_take]; rfl)) ?_; (with_reducible refine (name_Num.calls (⟨#[]⟩ : ByteArray) t141 false _ A4.out).mono ?_); rintro e w113 ⟨rfl, hb⟩; refine ⟨_, rfl, ?_⟩; have n0_ := Aside0.mk (below_step (by repeat (first | (with_reducible first | exact HB.out | apply below_alloc | apply pw_below_drewN | apply below_drew1) | exact HB.out)) hb); clear HB; have HB := n0_; clear n0_; (try clear hb); (try clear hb2); (try clear hk); (try clear hi)) | ((with_reducible refine gate_callee (f := 16) rfl ?_); refine goesL_ (some 24) rfl rfl Tryd.func16 (by kernel_rfl) rfl #[.string (⟨#[49, 50, 51, 52, 53, 54, 55, 56, 57, 48, 49, 50, 51]⟩ : ByteArray)] rfl (by (try simp only [List.map_toArray, List.map_cons, List.map_nil]); first | done | rfl | (simp only [List.length_drop, List.length_take]; rfl)) ?_; (with_reducible refine (name_Num.calls (⟨#[49, 50, 51, 52, 53, 54, 55, 56, 57, 48, 49, 50, 51]⟩ : ByteArray) t143 false _ A5.out).mono ?_); rintro e w114 ⟨rfl, hb⟩; refine ⟨_, rfl, ?_⟩; have n0_ := Aside0.mk (below_step (by repeat (first | (with_reducible first | exact HB.out | apply below_alloc | apply pw_below_drewN | apply below_drew1) | exact HB.out)) hb); clear HB; have HB := n0_; clear n0_; (try clear hb); (try clear hb2); (try clear hk); (try clear hi)) | ((with_reducible refine gate_callee (f := 16) rfl ?_); refine goesL_ (some 28) rfl rfl Tryd.func16 (by kernel_rfl) rfl #[.string (⟨#[43, 49]⟩ : ByteArray)] rfl (by (try simp only [List.map_toArray, List.map_cons, List.map_nil]); first | done | rfl | (simp only [List.length_drop, List.length_take]; rfl)) ?_; (with_reducible refine (name_Num.calls (⟨#[43, 49]⟩ : ByteArray) t145 false _ A6.out).mono ?_); rintro e w115 ⟨rfl, hb⟩; refine ⟨_, rfl, ?_⟩; have n0_ := Aside0.mk (below_step (by repeat (first | (with_reducible first | exact HB.out | apply below_alloc | apply pw_below_drewN | apply below_drew1) | exact HB.out)) hb); clear HB; have HB := n0_; clear n0_; (try clear hb); (try clear hb2); (try clear hk); (try clear hi)) | ((with_reducible refine gate_callee (f := 12) rfl ?_); refine goesL_ (some 32) rfl rfl Tryd.func12 (by kernel_rfl) rfl #[.string (⟨#[97, 98, 61, 49]⟩ : ByteArray), .string (⟨#[97]⟩ : ByteArray)] rfl (by (try simp only [List.map_toArray, List.map_cons, List.map_nil]); first | done | rfl | (simp only [List.length_drop, List.length_take]; rfl)) ?_; (with_reducible refine (name_Field.calls k (⟨#[97, 98, 61, 49]⟩ : ByteArray) (⟨#[97]⟩ : ByteArray) t147 false _ A7.out).mono ?_); rintro e w116 ⟨rfl, hb⟩; refine ⟨_, rfl, ?_⟩; have n0_ := Aside0.mk (below_step (by repeat (first | (with_reducible first | exact HB.out | apply below_alloc | apply pw_below_drewN | apply below_drew1) | exact HB.out)) hb); clear HB; have HB := n0_; clear n0_; (try clear hb); (try clear hb2); (try clear hk); (try clear hi)) | ((with_reducible refine gate_callee (f := 12) rfl ?_); refine goesL_ (some 36) rfl rfl Tryd.func12 (by kernel_rfl) rfl #[.string (⟨#[120, 32, 97, 61, 32, 121]⟩ : ByteArray), .string (⟨#[97]⟩ : ByteArray)] rfl (by (try simp only [List.map_toArray, List.map_cons, List.map_nil]); first | done | rfl | (simp only [List.length_drop, List.length_take]; rfl)) ?_; (with_reducible refine (name_Field.calls k (⟨#[120, 32, 97, 61, 32, 121]⟩ : ByteArray) (⟨#[97]⟩ : ByteArray) t149 true _ A8.out).mono ?_); rintro e w117 ⟨rfl, hb⟩; refine ⟨_, rfl, ?_⟩; have n0_ := Aside0.mk (below_step (by repeat (first | (with_reducible first | exact HB.out | apply below_alloc | apply pw_below_drewN | apply below_drew1) | exact HB.out)) hb); clear HB; have HB := n0_; clear n0_; (try clear hb); (try clear hb2); (try clear hk); (try clear hi)) | (go_at_call 14; (with_reducible refine (name_Good.calls (⟨#[]⟩ : ByteArray) false _ (tab_below HTb.out (by repeat (first | (with_reducible first | exact HB.out | apply below_alloc | apply pw_below_drewN | apply below_drew1) | exact HB.out))) A45.out).mono ?_); rintro e w118 ⟨rfl, hb⟩; have n0_ := Aside0.mk (below_step (by repeat (first | (with_reducible first | exact HB.out | apply below_alloc | apply pw_below_drewN | apply below_drew1) | exact HB.out)) hb); clear HB; have HB := n0_; clear n0_; (try clear hb); (try clear hb2); (try clear hk); (try clear hi)) | (go_at_call 14; (with_reducible refine (name_Good.calls (⟨#[49, 97]⟩ : ByteArray) false _ (tab_below HTb.out (by repeat (first | (with_reducible first | exact HB.out | apply below_alloc | apply pw_below_drewN | apply below_drew1) | exact HB.out))) A55.out).mono ?_); rintro e w119 ⟨rfl, hb⟩; have n0_ := Aside0.mk (below_step (by repeat (first | (with_reducible first | exact HB.out | apply below_alloc | apply pw_below_drewN | apply below_drew1) | exact HB.out)) hb); clear HB; have HB := n0_; clear n0_; (try clear hb); (try clear hb2); (try clear hk); (try clear hi)) | (go_at_call 14; (with_reducible refine (name_Good.calls (⟨#[97, 32, 98]⟩ : ByteArray) false _ (tab_below HTb.out (by repeat (first | (with_reducible first | exact HB.out | apply below_alloc | apply pw_below_drewN | apply below_drew1) | exact HB.out))) A66.out).mono ?_); rintro e w120 ⟨rfl, hb⟩; have n0_ := Aside0.mk (below_step (by repeat (first | (with_reducible first | exact HB.out | apply below_alloc | apply pw_below_drewN | apply below_drew1) | exact HB.out)) hb); clear HB; have HB := n0_; clear n0_; (try clear hb); (try clear hb2); (try clear hk); (try clear hi)) | (go_at_call 14; (with_reducible refine (name_Good.calls (⟨#[97, 255]⟩ : ByteArray) false _ (tab_below HTb.out (by repeat (first | (with_reducible first | exact HB.out | apply below_alloc | apply pw_below_drewN | apply below_drew1) | exact HB.out))) A78.out).mono ?_); rintro e w121 ⟨rfl, hb⟩; have n0_ := Aside0.mk (below_step (by repeat (first | (with_reducible first | exact HB.out | apply below_alloc | apply pw_below_drewN | apply below_drew1) | exact HB.out)) hb); clear HB; have HB := n0_; clear n0_; (try clear hb); (try clear hb2); (try clear hk); (try clear hi)) | (go_at_call 14; (with_reducible refine (name_Good.calls (⟨#[97, 50, 51, 52, 53, 54, 55, 56, 57, 48, 49, 50, 51, 52, 53, 54, 55, 56, 57, 122]⟩ : ByteArray) true _ (tab_below HTb.out (by repeat (first | (with_reducible first | exact HB.out | apply below_alloc | apply pw_below_drewN | apply below_drew1) | exact HB.out))) A91.out).mono ?_); rintro e w122 ⟨rfl, hb⟩; have n0_ := Aside0.mk (below_step (by repeat (first | (with_reducible first | exact HB.out | apply below_alloc | apply pw_below_drewN | apply below_drew1) | exact HB.out)) hb); clear HB; have HB := n0_; clear n0_; (try clear hb); (try clear hb2); (try clear hk); (try clear hi)) | (go_at_call 14; (with_reducible refine (name_Good.calls (⟨#[97, 50, 51, 52, 53, 54, 55, 56, 57, 48, 49, 50, 51, 52, 53, 54, 55, 56, 57, 122, 122]⟩ : ByteArray) false _ (tab_below HTb.out (by repeat (first | (with_reducible first | exact HB.out | apply below_alloc | apply pw_below_drewN | apply below_drew1) | exact HB.out))) A93.out).mono ?_); rintro e w123 ⟨rfl, hb⟩; have n0_ := Aside0.mk (below_step (by repeat (first | (with_reducible first | exact HB.out | apply below_alloc | apply pw_below_drewN | apply below_drew1) | exact HB.out)) hb); clear HB; have HB := n0_; clear n0_; (try clear hb); (try clear hb2); (try clear hk); (try clear hi)) | (go_at_call 15; (with_reducible refine (name_Len.calls (⟨#[255, 254]⟩ : ByteArray) t157 _ A108.out).mono ?_); rintro e w124 ⟨rfl, hb⟩; have n0_ := Aside0.mk (below_step (by repeat (first | (with_reducible first | exact HB.out | apply below_alloc | apply pw_below_drewN | apply below_drew1) | exact HB.out)) hb); clear HB; have HB := n0_; clear n0_; (try clear hb); (try clear hb2); (try clear hk); (try clear hi)) | (go_at_call 10; (with_reducible refine (name_Words.calls (⟨#[]⟩ : ByteArray) t158 _ A110.out).mono ?_); rintro e w125 ⟨v159, rfl, ho0, hb⟩; have n0_ := Aside0.mk (Kd.R_lower ho0 (below_size (by repeat (first | (with_reducible first | exact HB.out | apply below_alloc | apply pw_below_drewN | apply below_drew1) | exact HB.out)))); have n1_ := Aside0.mk (below_step (by repeat (first | (with_reducible first | exact HB.out | apply below_alloc | apply pw_below_drewN | apply below_drew1) | exact HB.out)) hb); clear HB; have HO160 := n0_; have HB := n1_; clear n0_ n1_; (try clear hb); (try clear hb2); (try clear hk); (try clear hi); (try clear ho0); obtain ⟨Ao126, co126, eo126⟩ := Kd.R_slice HO160.out; subst eo126))
                                    go_ret
                                    exact ⟨by first | rfl | (simp [errW_none, errW_some] <;> rfl) | (simp [*, errW_none, errW_some] <;> rfl), by repeat (first | (with_reducible first | exact HB.out | apply below_alloc | apply pw_below_drewN | apply below_drew1) | exact HB.out)⟩
                                · rw [if_neg c109] at H
                                  have c109b0 : (t157 == 2) = false := beq_eq_false_iff_ne.mpr c109
                                  have c109b1 : (t157 != 2) = true := bne_iff_ne.mpr c109
                                  obtain rfl := Option.some.inj H
                                  first
                                  | exact absurd hr_ (by decide)
                                  | go_enter Tryd.func6, Tryd.ntmps6
                                    go_wp2_with (first | ((with_reducible refine gate_callee (f := 9) rfl ?_); refine goesL_ (some 13) rfl rfl Tryd.func9 (by kernel_rfl) rfl #[] rfl (by (try simp only [List.map_toArray, List.map_cons, List.map_nil]); first | done | rfl | (simp only [List.length_drop, List.length_take]; rfl)) ?_; (with_reducible refine (tocsinlaw3_awake.calls k  true _ (tab_below HTb.out (by repeat (first | (with_reducible first | exact HB.out | apply below_alloc | apply pw_below_drewN | apply below_drew1) | exact HB.out))) A1.out).mono ?_); rintro e w127 ⟨rfl, hb⟩; refine ⟨_, rfl, ?_⟩; have n0_ := Aside0.mk (below_step (by repeat (first | (with_reducible first | exact HB.out | apply below_alloc | apply pw_below_drewN | apply below_drew1) | exact HB.out)) hb); clear HB; have HB := n0_; clear n0_; (try clear hb); (try clear hb2); (try clear hk); (try clear hi)) | ((with_reducible refine gate_callee (f := 16) rfl ?_); refine goesL_ (some 16) rfl rfl Tryd.func16 (by kernel_rfl) rfl #[.string (⟨#[45, 49, 50]⟩ : ByteArray)] rfl (by (try simp only [List.map_toArray, List.map_cons, List.map_nil]); first | done | rfl | (simp only [List.length_drop, List.length_take]; rfl)) ?_; (with_reducible refine (name_Num.calls (⟨#[45, 49, 50]⟩ : ByteArray) t139 true _ A3.out).mono ?_); rintro e w128 ⟨rfl, hb⟩; refine ⟨_, rfl, ?_⟩; have n0_ := Aside0.mk (below_step (by repeat (first | (with_reducible first | exact HB.out | apply below_alloc | apply pw_below_drewN | apply below_drew1) | exact HB.out)) hb); clear HB; have HB := n0_; clear n0_; (try clear hb); (try clear hb2); (try clear hk); (try clear hi)) | ((with_reducible refine gate_callee (f := 16) rfl ?_); refine goesL_ (some 20) rfl rfl Tryd.func16 (by kernel_rfl) rfl #[.string (⟨#[]⟩ : ByteArray)] rfl (by (try simp only [List.map_toArray, List.map_cons, List.map_nil]); first | done | rfl | (simp only [List.length_drop, List.length_take]; rfl)) ?_; (with_reducible refine (name_Num.calls (⟨#[]⟩ : ByteArray) t141 false _ A4.out).mono ?_); rintro e w129 ⟨rfl, hb⟩; refine ⟨_, rfl, ?_⟩; have n0_ := Aside0.mk (below_step (by repeat (first | (with_reducible first | exact HB.out | apply below_alloc | apply pw_below_drewN | apply below_drew1) | exact HB.out)) hb); clear HB; have HB := n0_; clear n0_; (try clear hb); (try clear hb2); (try clear hk); (try clear hi)) | ((with_reducible refine gate_callee (f := 16) rfl ?_); refine goesL_ (some 24) rfl rfl Tryd.func16 (by kernel_rfl) rfl #[.string (⟨#[49, 50, 51, 52, 53, 54, 55, 56, 57, 48, 49, 50, 51]⟩ : ByteArray)] rfl (by (try simp only [List.map_toArray, List.map_cons, List.map_nil]); first | done | rfl | (simp only [List.length_drop, List.length_take]; rfl)) ?_; (with_reducible refine (name_Num.calls (⟨#[49, 50, 51, 52, 53, 54, 55, 56, 57, 48, 49, 50, 51]⟩ : ByteArray) t143 false _ A5.out).mono ?_); rintro e w130 ⟨rfl, hb⟩; refine ⟨_, rfl, ?_⟩; have n0_ := Aside0.mk (below_step (by repeat (first | (with_reducible first | exact HB.out | apply below_alloc | apply pw_below_drewN | apply below_drew1) | exact HB.out)) hb); clear HB; have HB := n0_; clear n0_; (try clear hb); (try clear hb2); (try clear hk); (try clear hi)) | ((with_reducible refine gate_callee (f := 16) rfl ?_); refine goesL_ (some 28) rfl rfl Tryd.func16 (by kernel_rfl) rfl #[.string (⟨#[43, 49]⟩ : ByteArray)] rfl (by (try simp only [List.map_toArray, List.map_cons, List.map_nil]); first | done | rfl | (simp only [List.length_drop, List.length_take]; rfl)) ?_; (with_reducible refine (name_Num.calls (⟨#[43, 49]⟩ : ByteArray) t145 false _ A6.out).mono ?_); rintro e w131 ⟨rfl, hb⟩; refine ⟨_, rfl, ?_⟩; have n0_ := Aside0.mk (below_step (by repeat (first | (with_reducible first | exact HB.out | apply below_alloc | apply pw_below_drewN | apply below_drew1) | exact HB.out)) hb); clear HB; have HB := n0_; clear n0_; (try clear hb); (try clear hb2); (try clear hk); (try clear hi)) | ((with_reducible refine gate_callee (f := 12) rfl ?_); refine goesL_ (some 32) rfl rfl Tryd.func12 (by kernel_rfl) rfl #[.string (⟨#[97, 98, 61, 49]⟩ : ByteArray), .string (⟨#[97]⟩ : ByteArray)] rfl (by (try simp only [List.map_toArray, List.map_cons, List.map_nil]); first | done | rfl | (simp only [List.length_drop, List.length_take]; rfl)) ?_; (with_reducible refine (name_Field.calls k (⟨#[97, 98, 61, 49]⟩ : ByteArray) (⟨#[97]⟩ : ByteArray) t147 false _ A7.out).mono ?_); rintro e w132 ⟨rfl, hb⟩; refine ⟨_, rfl, ?_⟩; have n0_ := Aside0.mk (below_step (by repeat (first | (with_reducible first | exact HB.out | apply below_alloc | apply pw_below_drewN | apply below_drew1) | exact HB.out)) hb); clear HB; have HB := n0_; clear n0_; (try clear hb); (try clear hb2); (try clear hk); (try clear hi)) | ((with_reducible refine gate_callee (f := 12) rfl ?_); refine goesL_ (some 36) rfl rfl Tryd.func12 (by kernel_rfl) rfl #[.string (⟨#[120, 32, 97, 61, 32, 121]⟩ : ByteArray), .string (⟨#[97]⟩ : ByteArray)] rfl (by (try simp only [List.map_toArray, List.map_cons, List.map_nil]); first | done | rfl | (simp only [List.length_drop, List.length_take]; rfl)) ?_; (with_reducible refine (name_Field.calls k (⟨#[120, 32, 97, 61, 32, 121]⟩ : ByteArray) (⟨#[97]⟩ : ByteArray) t149 true _ A8.out).mono ?_); rintro e w133 ⟨rfl, hb⟩; refine ⟨_, rfl, ?_⟩; have n0_ := Aside0.mk (below_step (by repeat (first | (with_reducible first | exact HB.out | apply below_alloc | apply pw_below_drewN | apply below_drew1) | exact HB.out)) hb); clear HB; have HB := n0_; clear n0_; (try clear hb); (try clear hb2); (try clear hk); (try clear hi)) | (go_at_call 14; (with_reducible refine (name_Good.calls (⟨#[]⟩ : ByteArray) false _ (tab_below HTb.out (by repeat (first | (with_reducible first | exact HB.out | apply below_alloc | apply pw_below_drewN | apply below_drew1) | exact HB.out))) A45.out).mono ?_); rintro e w134 ⟨rfl, hb⟩; have n0_ := Aside0.mk (below_step (by repeat (first | (with_reducible first | exact HB.out | apply below_alloc | apply pw_below_drewN | apply below_drew1) | exact HB.out)) hb); clear HB; have HB := n0_; clear n0_; (try clear hb); (try clear hb2); (try clear hk); (try clear hi)) | (go_at_call 14; (with_reducible refine (name_Good.calls (⟨#[49, 97]⟩ : ByteArray) false _ (tab_below HTb.out (by repeat (first | (with_reducible first | exact HB.out | apply below_alloc | apply pw_below_drewN | apply below_drew1) | exact HB.out))) A55.out).mono ?_); rintro e w135 ⟨rfl, hb⟩; have n0_ := Aside0.mk (below_step (by repeat (first | (with_reducible first | exact HB.out | apply below_alloc | apply pw_below_drewN | apply below_drew1) | exact HB.out)) hb); clear HB; have HB := n0_; clear n0_; (try clear hb); (try clear hb2); (try clear hk); (try clear hi)) | (go_at_call 14; (with_reducible refine (name_Good.calls (⟨#[97, 32, 98]⟩ : ByteArray) false _ (tab_below HTb.out (by repeat (first | (with_reducible first | exact HB.out | apply below_alloc | apply pw_below_drewN | apply below_drew1) | exact HB.out))) A66.out).mono ?_); rintro e w136 ⟨rfl, hb⟩; have n0_ := Aside0.mk (below_step (by repeat (first | (with_reducible first | exact HB.out | apply below_alloc | apply pw_below_drewN | apply below_drew1) | exact HB.out)) hb); clear HB; have HB := n0_; clear n0_; (try clear hb); (try clear hb2); (try clear hk); (try clear hi)) | (go_at_call 14; (with_reducible refine (name_Good.calls (⟨#[97, 255]⟩ : ByteArray) false _ (tab_below HTb.out (by repeat (first | (with_reducible first | exact HB.out | apply below_alloc | apply pw_below_drewN | apply below_drew1) | exact HB.out))) A78.out).mono ?_); rintro e w137 ⟨rfl, hb⟩; have n0_ := Aside0.mk (below_step (by repeat (first | (with_reducible first | exact HB.out | apply below_alloc | apply pw_below_drewN | apply below_drew1) | exact HB.out)) hb); clear HB; have HB := n0_; clear n0_; (try clear hb); (try clear hb2); (try clear hk); (try clear hi)) | (go_at_call 14; (with_reducible refine (name_Good.calls (⟨#[97, 50, 51, 52, 53, 54, 55, 56, 57, 48, 49, 50, 51, 52, 53, 54, 55, 56, 57, 122]⟩ : ByteArray) true _ (tab_below HTb.out (by repeat (first | (with_reducible first | exact HB.out | apply below_alloc | apply pw_below_drewN | apply below_drew1) | exact HB.out))) A91.out).mono ?_); rintro e w138 ⟨rfl, hb⟩; have n0_ := Aside0.mk (below_step (by repeat (first | (with_reducible first | exact HB.out | apply below_alloc | apply pw_below_drewN | apply below_drew1) | exact HB.out)) hb); clear HB; have HB := n0_; clear n0_; (try clear hb); (try clear hb2); (try clear hk); (try clear hi)) | (go_at_call 14; (with_reducible refine (name_Good.calls (⟨#[97, 50, 51, 52, 53, 54, 55, 56, 57, 48, 49, 50, 51, 52, 53, 54, 55, 56, 57, 122, 122]⟩ : ByteArray) false _ (tab_below HTb.out (by repeat (first | (with_reducible first | exact HB.out | apply below_alloc | apply pw_below_drewN | apply below_drew1) | exact HB.out))) A93.out).mono ?_); rintro e w139 ⟨rfl, hb⟩; have n0_ := Aside0.mk (below_step (by repeat (first | (with_reducible first | exact HB.out | apply below_alloc | apply pw_below_drewN | apply below_drew1) | exact HB.out)) hb); clear HB; have HB := n0_; clear n0_; (try clear hb); (try clear hb2); (try clear hk); (try clear hi)) | (go_at_call 15; (with_reducible refine (name_Len.calls (⟨#[255, 254]⟩ : ByteArray) t157 _ A108.out).mono ?_); rintro e w140 ⟨rfl, hb⟩; have n0_ := Aside0.mk (below_step (by repeat (first | (with_reducible first | exact HB.out | apply below_alloc | apply pw_below_drewN | apply below_drew1) | exact HB.out)) hb); clear HB; have HB := n0_; clear n0_; (try clear hb); (try clear hb2); (try clear hk); (try clear hi)))
                                    go_ret
                                    exact ⟨by first | rfl | (simp [errW_none, errW_some] <;> rfl) | (simp [*, errW_none, errW_some] <;> rfl), by repeat (first | (with_reducible first | exact HB.out | apply below_alloc | apply pw_below_drewN | apply below_drew1) | exact HB.out)⟩
                            · replace c92 := Bool.eq_false_iff.mpr c92
                              subst c92
                              have H1 : (some false) = some r := by rw [if_neg (show ¬ (false = true) by decide)] at H; exact H
                              clear H
                              have H := H1
                              clear H1
                              obtain rfl := Option.some.inj H
                              exact absurd hr_ (by decide)
                  · rw [if_neg c44] at H
                    have c44b0 : (t149.toList == ([] : List UInt8)) = false := beq_eq_false_iff_ne.mpr c44
                    have c44b1 : (t149.toList != ([] : List UInt8)) = true := bne_iff_ne.mpr c44
                    obtain rfl := Option.some.inj H
                    first
                    | exact absurd hr_ (by decide)
                    | go_enter Tryd.func6, Tryd.ntmps6
                      go_wp2_with (first | ((with_reducible refine gate_callee (f := 9) rfl ?_); refine goesL_ (some 13) rfl rfl Tryd.func9 (by kernel_rfl) rfl #[] rfl (by (try simp only [List.map_toArray, List.map_cons, List.map_nil]); first | done | rfl | (simp only [List.length_drop, List.length_take]; rfl)) ?_; (with_reducible refine (tocsinlaw3_awake.calls k  true _ (tab_below HTb.out (by repeat (first | (with_reducible first | exact HB.out | apply below_alloc | apply pw_below_drewN | apply below_drew1) | exact HB.out))) A1.out).mono ?_); rintro e w153 ⟨rfl, hb⟩; refine ⟨_, rfl, ?_⟩; have n0_ := Aside0.mk (below_step (by repeat (first | (with_reducible first | exact HB.out | apply below_alloc | apply pw_below_drewN | apply below_drew1) | exact HB.out)) hb); clear HB; have HB := n0_; clear n0_; (try clear hb); (try clear hb2); (try clear hk); (try clear hi)) | ((with_reducible refine gate_callee (f := 16) rfl ?_); refine goesL_ (some 16) rfl rfl Tryd.func16 (by kernel_rfl) rfl #[.string (⟨#[45, 49, 50]⟩ : ByteArray)] rfl (by (try simp only [List.map_toArray, List.map_cons, List.map_nil]); first | done | rfl | (simp only [List.length_drop, List.length_take]; rfl)) ?_; (with_reducible refine (name_Num.calls (⟨#[45, 49, 50]⟩ : ByteArray) t139 true _ A3.out).mono ?_); rintro e w154 ⟨rfl, hb⟩; refine ⟨_, rfl, ?_⟩; have n0_ := Aside0.mk (below_step (by repeat (first | (with_reducible first | exact HB.out | apply below_alloc | apply pw_below_drewN | apply below_drew1) | exact HB.out)) hb); clear HB; have HB := n0_; clear n0_; (try clear hb); (try clear hb2); (try clear hk); (try clear hi)) | ((with_reducible refine gate_callee (f := 16) rfl ?_); refine goesL_ (some 20) rfl rfl Tryd.func16 (by kernel_rfl) rfl #[.string (⟨#[]⟩ : ByteArray)] rfl (by (try simp only [List.map_toArray, List.map_cons, List.map_nil]); first | done | rfl | (simp only [List.length_drop, List.length_take]; rfl)) ?_; (with_reducible refine (name_Num.calls (⟨#[]⟩ : ByteArray) t141 false _ A4.out).mono ?_); rintro e w155 ⟨rfl, hb⟩; refine ⟨_, rfl, ?_⟩; have n0_ := Aside0.mk (below_step (by repeat (first | (with_reducible first | exact HB.out | apply below_alloc | apply pw_below_drewN | apply below_drew1) | exact HB.out)) hb); clear HB; have HB := n0_; clear n0_; (try clear hb); (try clear hb2); (try clear hk); (try clear hi)) | ((with_reducible refine gate_callee (f := 16) rfl ?_); refine goesL_ (some 24) rfl rfl Tryd.func16 (by kernel_rfl) rfl #[.string (⟨#[49, 50, 51, 52, 53, 54, 55, 56, 57, 48, 49, 50, 51]⟩ : ByteArray)] rfl (by (try simp only [List.map_toArray, List.map_cons, List.map_nil]); first | done | rfl | (simp only [List.length_drop, List.length_take]; rfl)) ?_; (with_reducible refine (name_Num.calls (⟨#[49, 50, 51, 52, 53, 54, 55, 56, 57, 48, 49, 50, 51]⟩ : ByteArray) t143 false _ A5.out).mono ?_); rintro e w156 ⟨rfl, hb⟩; refine ⟨_, rfl, ?_⟩; have n0_ := Aside0.mk (below_step (by repeat (first | (with_reducible first | exact HB.out | apply below_alloc | apply pw_below_drewN | apply below_drew1) | exact HB.out)) hb); clear HB; have HB := n0_; clear n0_; (try clear hb); (try clear hb2); (try clear hk); (try clear hi)) | ((with_reducible refine gate_callee (f := 16) rfl ?_); refine goesL_ (some 28) rfl rfl Tryd.func16 (by kernel_rfl) rfl #[.string (⟨#[43, 49]⟩ : ByteArray)] rfl (by (try simp only [List.map_toArray, List.map_cons, List.map_nil]); first | done | rfl | (simp only [List.length_drop, List.length_take]; rfl)) ?_; (with_reducible refine (name_Num.calls (⟨#[43, 49]⟩ : ByteArray) t145 false _ A6.out).mono ?_); rintro e w157 ⟨rfl, hb⟩; refine ⟨_, rfl, ?_⟩; have n0_ := Aside0.mk (below_step (by repeat (first | (with_reducible first | exact HB.out | apply below_alloc | apply pw_below_drewN | apply below_drew1) | exact HB.out)) hb); clear HB; have HB := n0_; clear n0_; (try clear hb); (try clear hb2); (try clear hk); (try clear hi)) | ((with_reducible refine gate_callee (f := 12) rfl ?_); refine goesL_ (some 32) rfl rfl Tryd.func12 (by kernel_rfl) rfl #[.string (⟨#[97, 98, 61, 49]⟩ : ByteArray), .string (⟨#[97]⟩ : ByteArray)] rfl (by (try simp only [List.map_toArray, List.map_cons, List.map_nil]); first | done | rfl | (simp only [List.length_drop, List.length_take]; rfl)) ?_; (with_reducible refine (name_Field.calls k (⟨#[97, 98, 61, 49]⟩ : ByteArray) (⟨#[97]⟩ : ByteArray) t147 false _ A7.out).mono ?_); rintro e w158 ⟨rfl, hb⟩; refine ⟨_, rfl, ?_⟩; have n0_ := Aside0.mk (below_step (by repeat (first | (with_reducible first | exact HB.out | apply below_alloc | apply pw_below_drewN | apply below_drew1) | exact HB.out)) hb); clear HB; have HB := n0_; clear n0_; (try clear hb); (try clear hb2); (try clear hk); (try clear hi)) | ((with_reducible refine gate_callee (f := 12) rfl ?_); refine goesL_ (some 36) rfl rfl Tryd.func12 (by kernel_rfl) rfl #[.string (⟨#[120, 32, 97, 61, 32, 121]⟩ : ByteArray), .string (⟨#[97]⟩ : ByteArray)] rfl (by (try simp only [List.map_toArray, List.map_cons, List.map_nil]); first | done | rfl | (simp only [List.length_drop, List.length_take]; rfl)) ?_; (with_reducible refine (name_Field.calls k (⟨#[120, 32, 97, 61, 32, 121]⟩ : ByteArray) (⟨#[97]⟩ : ByteArray) t149 true _ A8.out).mono ?_); rintro e w159 ⟨rfl, hb⟩; refine ⟨_, rfl, ?_⟩; have n0_ := Aside0.mk (below_step (by repeat (first | (with_reducible first | exact HB.out | apply below_alloc | apply pw_below_drewN | apply below_drew1) | exact HB.out)) hb); clear HB; have HB := n0_; clear n0_; (try clear hb); (try clear hb2); (try clear hk); (try clear hi)))
                      go_ret
                      exact ⟨by first | rfl | (simp [errW_none, errW_some] <;> rfl) | (simp [*, errW_none, errW_some] <;> rfl), by repeat (first | (with_reducible first | exact HB.out | apply below_alloc | apply pw_below_drewN | apply below_drew1) | exact HB.out)⟩
                · replace c43 := Bool.eq_false_iff.mpr c43
                  subst c43
                  have H1 : (some false) = some r := by rw [if_neg (show ¬ (false = true) by decide)] at H; exact H
                  clear H
                  have H := H1
                  clear H1
                  obtain rfl := Option.some.inj H
                  exact absurd hr_ (by decide)
      · rw [if_neg c10] at H
        have c10b0 : (t139 == (-12)) = false := beq_eq_false_iff_ne.mpr c10
        have c10b1 : (t139 != (-12)) = true := bne_iff_ne.mpr c10
        obtain rfl := Option.some.inj H
        first
        | exact absurd hr_ (by decide)
        | go_enter Tryd.func6, Tryd.ntmps6
          go_wp2_with (first | ((with_reducible refine gate_callee (f := 9) rfl ?_); refine goesL_ (some 13) rfl rfl Tryd.func9 (by kernel_rfl) rfl #[] rfl (by (try simp only [List.map_toArray, List.map_cons, List.map_nil]); first | done | rfl | (simp only [List.length_drop, List.length_take]; rfl)) ?_; (with_reducible refine (tocsinlaw3_awake.calls k  true _ (tab_below HTb.out (by repeat (first | (with_reducible first | exact HB.out | apply below_alloc | apply pw_below_drewN | apply below_drew1) | exact HB.out))) A1.out).mono ?_); rintro e w167 ⟨rfl, hb⟩; refine ⟨_, rfl, ?_⟩; have n0_ := Aside0.mk (below_step (by repeat (first | (with_reducible first | exact HB.out | apply below_alloc | apply pw_below_drewN | apply below_drew1) | exact HB.out)) hb); clear HB; have HB := n0_; clear n0_; (try clear hb); (try clear hb2); (try clear hk); (try clear hi)) | ((with_reducible refine gate_callee (f := 16) rfl ?_); refine goesL_ (some 16) rfl rfl Tryd.func16 (by kernel_rfl) rfl #[.string (⟨#[45, 49, 50]⟩ : ByteArray)] rfl (by (try simp only [List.map_toArray, List.map_cons, List.map_nil]); first | done | rfl | (simp only [List.length_drop, List.length_take]; rfl)) ?_; (with_reducible refine (name_Num.calls (⟨#[45, 49, 50]⟩ : ByteArray) t139 true _ A3.out).mono ?_); rintro e w168 ⟨rfl, hb⟩; refine ⟨_, rfl, ?_⟩; have n0_ := Aside0.mk (below_step (by repeat (first | (with_reducible first | exact HB.out | apply below_alloc | apply pw_below_drewN | apply below_drew1) | exact HB.out)) hb); clear HB; have HB := n0_; clear n0_; (try clear hb); (try clear hb2); (try clear hk); (try clear hi)) | ((with_reducible refine gate_callee (f := 16) rfl ?_); refine goesL_ (some 20) rfl rfl Tryd.func16 (by kernel_rfl) rfl #[.string (⟨#[]⟩ : ByteArray)] rfl (by (try simp only [List.map_toArray, List.map_cons, List.map_nil]); first | done | rfl | (simp only [List.length_drop, List.length_take]; rfl)) ?_; (with_reducible refine (name_Num.calls (⟨#[]⟩ : ByteArray) t141 t142 _ A4.out).mono ?_); rintro e w169 ⟨rfl, hb⟩; refine ⟨_, rfl, ?_⟩; have n0_ := Aside0.mk (below_step (by repeat (first | (with_reducible first | exact HB.out | apply below_alloc | apply pw_below_drewN | apply below_drew1) | exact HB.out)) hb); clear HB; have HB := n0_; clear n0_; (try clear hb); (try clear hb2); (try clear hk); (try clear hi)) | ((with_reducible refine gate_callee (f := 16) rfl ?_); refine goesL_ (some 24) rfl rfl Tryd.func16 (by kernel_rfl) rfl #[.string (⟨#[49, 50, 51, 52, 53, 54, 55, 56, 57, 48, 49, 50, 51]⟩ : ByteArray)] rfl (by (try simp only [List.map_toArray, List.map_cons, List.map_nil]); first | done | rfl | (simp only [List.length_drop, List.length_take]; rfl)) ?_; (with_reducible refine (name_Num.calls (⟨#[49, 50, 51, 52, 53, 54, 55, 56, 57, 48, 49, 50, 51]⟩ : ByteArray) t143 t144 _ A5.out).mono ?_); rintro e w170 ⟨rfl, hb⟩; refine ⟨_, rfl, ?_⟩; have n0_ := Aside0.mk (below_step (by repeat (first | (with_reducible first | exact HB.out | apply below_alloc | apply pw_below_drewN | apply below_drew1) | exact HB.out)) hb); clear HB; have HB := n0_; clear n0_; (try clear hb); (try clear hb2); (try clear hk); (try clear hi)) | ((with_reducible refine gate_callee (f := 16) rfl ?_); refine goesL_ (some 28) rfl rfl Tryd.func16 (by kernel_rfl) rfl #[.string (⟨#[43, 49]⟩ : ByteArray)] rfl (by (try simp only [List.map_toArray, List.map_cons, List.map_nil]); first | done | rfl | (simp only [List.length_drop, List.length_take]; rfl)) ?_; (with_reducible refine (name_Num.calls (⟨#[43, 49]⟩ : ByteArray) t145 t146 _ A6.out).mono ?_); rintro e w171 ⟨rfl, hb⟩; refine ⟨_, rfl, ?_⟩; have n0_ := Aside0.mk (below_step (by repeat (first | (with_reducible first | exact HB.out | apply below_alloc | apply pw_below_drewN | apply below_drew1) | exact HB.out)) hb); clear HB; have HB := n0_; clear n0_; (try clear hb); (try clear hb2); (try clear hk); (try clear hi)) | ((with_reducible refine gate_callee (f := 12) rfl ?_); refine goesL_ (some 32) rfl rfl Tryd.func12 (by kernel_rfl) rfl #[.string (⟨#[97, 98, 61, 49]⟩ : ByteArray), .string (⟨#[97]⟩ : ByteArray)] rfl (by (try simp only [List.map_toArray, List.map_cons, List.map_nil]); first | done | rfl | (simp only [List.length_drop, List.length_take]; rfl)) ?_; (with_reducible refine (name_Field.calls k (⟨#[97, 98, 61, 49]⟩ : ByteArray) (⟨#[97]⟩ : ByteArray) t147 t148 _ A7.out).mono ?_); rintro e w172 ⟨rfl, hb⟩; refine ⟨_, rfl, ?_⟩; have n0_ := Aside0.mk (below_step (by repeat (first | (with_reducible first | exact HB.out | apply below_alloc | apply pw_below_drewN | apply below_drew1) | exact HB.out)) hb); clear HB; have HB := n0_; clear n0_; (try clear hb); (try clear hb2); (try clear hk); (try clear hi)) | ((with_reducible refine gate_callee (f := 12) rfl ?_); refine goesL_ (some 36) rfl rfl Tryd.func12 (by kernel_rfl) rfl #[.string (⟨#[120, 32, 97, 61, 32, 121]⟩ : ByteArray), .string (⟨#[97]⟩ : ByteArray)] rfl (by (try simp only [List.map_toArray, List.map_cons, List.map_nil]); first | done | rfl | (simp only [List.length_drop, List.length_take]; rfl)) ?_; (with_reducible refine (name_Field.calls k (⟨#[120, 32, 97, 61, 32, 121]⟩ : ByteArray) (⟨#[97]⟩ : ByteArray) t149 t150 _ A8.out).mono ?_); rintro e w173 ⟨rfl, hb⟩; refine ⟨_, rfl, ?_⟩; have n0_ := Aside0.mk (below_step (by repeat (first | (with_reducible first | exact HB.out | apply below_alloc | apply pw_below_drewN | apply below_drew1) | exact HB.out)) hb); clear HB; have HB := n0_; clear n0_; (try clear hb); (try clear hb2); (try clear hk); (try clear hi)))
          go_ret
          exact ⟨by first | rfl | (simp [errW_none, errW_some] <;> rfl) | (simp [*, errW_none, errW_some] <;> rfl), by repeat (first | (with_reducible first | exact HB.out | apply below_alloc | apply pw_below_drewN | apply below_drew1) | exact HB.out)⟩
    · replace c9 := Bool.eq_false_iff.mpr c9
      subst c9
      have H1 : (some false) = some r := by rw [if_neg (show ¬ (false = true) by decide)] at H; exact H
      clear H
      have H := H1
      clear H1
      obtain rfl := Option.some.inj H
      exact absurd hr_ (by decide)
  · replace c2 := Bool.eq_false_iff.mpr c2
    subst c2
    have H1 : (some false) = some r := by rw [if_neg (show ¬ (false = true) by decide)] at H; exact H
    clear H
    have H := H1
    clear H1
    obtain rfl := Option.some.inj H
    exact absurd hr_ (by decide)


/-! ### tocsinref8_Num: function 17 -/
mutual
def tocsinref8_Num.j0 : Nat → ByteArray → Bool → Option (Int × Bool)
  | 0, _, _ => none
  | k + 1, x0, x4 => if x4 = true then (if 1 ≤ (x0.size : Int) then (tocsinref8_Num.j1 k (x0.extract 1 x0.size) x4) else (none)) else (tocsinref8_Num.j1 k x0 x4)
def tocsinref8_Num.j1 : Nat → ByteArray → Bool → Option (Int × Bool)
  | 0, _, _ => none
  | k + 1, x0, x4 => if (x0.size : Int) < 1 then (tocsinref8_Num.j2 k x0 x4 true) else (tocsinref8_Num.j2 k x0 x4 (decide ((x0.size : Int) > 12)))
def tocsinref8_Num.j2 : Nat → ByteArray → Bool → Bool → Option (Int × Bool)
  | 0, _, _, _ => none
  | k + 1, x0, x4, x25 => if x25 = true then (some (0, false)) else (tocsinref8_Num.l0 k x0 x4 0 0)
def tocsinref8_Num.l0 : Nat → ByteArray → Bool → Int → Int → Option (Int × Bool)
  | 0, _, _, _, _ => none
  | k + 1, x0, x4, x5, x6 => if x6 < (x0.size : Int) then (if 0 ≤ x6 then (if (bt x0 x6) < 48 then (some (0, false)) else (if (bt x0 x6) > 57 then (some (0, false)) else (tocsinref8_Num.l0 k x0 x4 (wrap64 ((wrap64 (10 * x5)) + (((bt x0 x6) - 48) % 256))) (wrap64 (x6 + 1))))) else (none)) else (if x4 = true then (some (wrap64 (-x5), true)) else (some (x5, true)))
end
def tocsinref8_Num.f (k : Nat) (a0 : ByteArray) : Option (Int × Bool) := if (a0.size : Int) > 0 then (if 0 < (a0.size : Int) then (tocsinref8_Num.j0 k a0 ((bt a0 0) == 45)) else (none)) else (tocsinref8_Num.j0 k a0 false)
theorem tocsinref8_Num.mono_l : ∀ k, (∀ y0 y1, LeO (tocsinref8_Num.j0 k y0 y1) (tocsinref8_Num.j0 (k + 1) y0 y1)) ∧ (∀ y0 y1, LeO (tocsinref8_Num.j1 k y0 y1) (tocsinref8_Num.j1 (k + 1) y0 y1)) ∧ (∀ y0 y1 y2, LeO (tocsinref8_Num.j2 k y0 y1 y2) (tocsinref8_Num.j2 (k + 1) y0 y1 y2)) ∧ (∀ y0 y1 y2 y3, LeO (tocsinref8_Num.l0 k y0 y1 y2 y3) (tocsinref8_Num.l0 (k + 1) y0 y1 y2 y3))
  | 0 => ⟨fun _ _ r h => by simp [tocsinref8_Num.j0] at h, fun _ _ r h => by simp [tocsinref8_Num.j1] at h, fun _ _ _ r h => by simp [tocsinref8_Num.j2] at h, fun _ _ _ _ r h => by simp [tocsinref8_Num.l0] at h⟩
  | k + 1 => by
    obtain ⟨ih0, ih1, ih2, ih3⟩ := tocsinref8_Num.mono_l k
    refine ⟨?_, ?_, ?_, ?_⟩
    · intro y0 y1
      unfold tocsinref8_Num.j0
      repeat' first
      | (with_reducible exact ih0 _ _)
      | (with_reducible exact ih1 _ _)
      | (with_reducible exact ih2 _ _ _)
      | (with_reducible exact ih3 _ _ _ _)
      | (with_reducible exact LeO.refl _)
      | (with_reducible exact LeO.none _)
      | (with_reducible refine LeO.ite ?_ ?_)
      | (with_reducible refine LeO.bind ?_ (fun _ => ?_))
      | exact ih0 _ _
      | exact ih1 _ _
      | exact ih2 _ _ _
      | exact ih3 _ _ _ _
      | exact LeO.none _
      | refine LeO.ite ?_ ?_
      | refine LeO.bind ?_ (fun _ => ?_)
    · intro y0 y1
      unfold tocsinref8_Num.j1
      repeat' first
      | (with_reducible exact ih0 _ _)
      | (with_reducible exact ih1 _ _)
      | (with_reducible exact ih2 _ _ _)
      | (with_reducible exact ih3 _ _ _ _)
      | (with_reducible exact LeO.refl _)
      | (with_reducible exact LeO.none _)
      | (with_reducible refine LeO.ite ?_ ?_)
      | (with_reducible refine LeO.bind ?_ (fun _ => ?_))
      | exact ih0 _ _
      | exact ih1 _ _
      | exact ih2 _ _ _
      | exact ih3 _ _ _ _
      | exact LeO.none _
      | refine LeO.ite ?_ ?_
      | refine LeO.bind ?_ (fun _ => ?_)
    · intro y0 y1 y2
      unfold tocsinref8_Num.j2
      repeat' first
      | (with_reducible exact ih0 _ _)
      | (with_reducible exact ih1 _ _)
      | (with_reducible exact ih2 _ _ _)
      | (with_reducible exact ih3 _ _ _ _)
      | (with_reducible exact LeO.refl _)
      | (with_reducible exact LeO.none _)
      | (with_reducible refine LeO.ite ?_ ?_)
      | (with_reducible refine LeO.bind ?_ (fun _ => ?_))
      | exact ih0 _ _
      | exact ih1 _ _
      | exact ih2 _ _ _
      | exact ih3 _ _ _ _
      | exact LeO.none _
      | refine LeO.ite ?_ ?_
      | refine LeO.bind ?_ (fun _ => ?_)
    · intro y0 y1 y2 y3
      unfold tocsinref8_Num.l0
      repeat' first
      | (with_reducible exact ih0 _ _)
      | (with_reducible exact ih1 _ _)
      | (with_reducible exact ih2 _ _ _)
      | (with_reducible exact ih3 _ _ _ _)
      | (with_reducible exact LeO.refl _)
      | (with_reducible exact LeO.none _)
      | (with_reducible refine LeO.ite ?_ ?_)
      | (with_reducible refine LeO.bind ?_ (fun _ => ?_))
      | exact ih0 _ _
      | exact ih1 _ _
      | exact ih2 _ _ _
      | exact ih3 _ _ _ _
      | exact LeO.none _
      | refine LeO.ite ?_ ?_
      | refine LeO.bind ?_ (fun _ => ?_)
theorem tocsinref8_Num.mono : ∀ a0 k, LeO (tocsinref8_Num.f k a0) (tocsinref8_Num.f (k + 1) a0) := by
  intro a0 k
  obtain ⟨ih0, ih1, ih2, ih3⟩ := tocsinref8_Num.mono_l k
  unfold tocsinref8_Num.f
  repeat' first
      | (with_reducible exact ih0 _ _)
      | (with_reducible exact ih1 _ _)
      | (with_reducible exact ih2 _ _ _)
      | (with_reducible exact ih3 _ _ _ _)
      | (with_reducible exact LeO.refl _)
      | (with_reducible exact LeO.none _)
      | (with_reducible refine LeO.ite ?_ ?_)
      | (with_reducible refine LeO.bind ?_ (fun _ => ?_))
      | exact ih0 _ _
      | exact ih1 _ _
      | exact ih2 _ _ _
      | exact ih3 _ _ _ _
      | exact LeO.none _
      | refine LeO.ite ?_ ?_
      | refine LeO.bind ?_ (fun _ => ?_)
set_option maxHeartbeats 8000000 in
set_option maxRecDepth 100000 in
theorem tocsinref8_Num.calls (k : Nat) (a0 : ByteArray) (r1 : Int) (r2 : Bool) (w : World) (h : tocsinref8_Num.f k a0 = some (r1, r2)) :
    Calls Tryd.prog 17 #[.string a0] w fun e w' => e = .returned (.tuple #[.int .i64 r1, .bool r2]) ∧ Drawn0 w w' := by
  have H : (if (a0.size : Int) > 0 then (if 0 < (a0.size : Int) then (tocsinref8_Num.j0 k a0 ((bt a0 0) == 45)) else (none)) else (tocsinref8_Num.j0 k a0 false)) = some (r1, r2) := h
  clear h
  have HC2 := Aside0.mk H
  clear H
  go_enter Tryd.func17, Tryd.ntmps17
  go_upto_region 1 with (fail)
  go_cut [4] (fun v4 wc => ∃ (kq : Nat) (x4_1 : Bool), v4 = .bool x4_1 ∧ Aside0 (tocsinref8_Num.j0 kq a0 x4_1 = some (r1, r2)) ∧ Aside0 (kq ≤ k) ∧ Drawn0 w wc)
  case first =>
    have H := HC2.out
    clear HC2
    by_cases c3 : (a0.size : Int) > 0
    · rw [if_pos c3] at H
      have c3b0 : decide (0 < (a0.size : Int)) = true := decide_eq_true c3
      have c3b1 : decide (0 < a0.size) = true := decide_eq_true (by omega)
      clear c3
      (first | rw [c3b0] | (simp only [i64_w, i32_w]; rw [c3b0]) | skip)
      by_cases c4 : 0 < (a0.size : Int)
      · rw [if_pos c4] at H
        have c4b0 : decide (0 < (a0.size : Int)) = true := decide_eq_true c4
        have c4b1 : decide (0 < a0.size) = true := decide_eq_true (by omega)
        clear c4
        have H' := Aside0.mk H
        clear H
        have p5 : 0 ≤ (0 : Int) := (by omega)
        have q5 : 0 < a0.size := (by have : (0 : Int) < (a0.size : Int) := of_decide_eq_true (by first | (with_reducible assumption) | assumption); omega)
        have hx5 : ∀ h : 0 < a0.size, ((a0[0]'h).toNat : Int) = bt a0 0 := bt_at a0 0
        clear p5
        have qi5 : (0 < (a0.size : Int)) = True := eq_true (of_decide_eq_true (by first | (with_reducible assumption) | assumption))
        replace q5 := eq_true q5
        go_wp2
        go_meet
        case rel => exact ⟨_, (((bt a0 0) == 45)), (by first | rfl | (simp; done) | (simp [*]; done)), H', ⟨by first | omega | exact Nat.le_refl _⟩, by repeat (first | exact Drawn0.refl _ | apply Drawn0.step)⟩
      · rw [if_neg c4] at H
        exact absurd H (by simp)
    · rw [if_neg c3] at H
      have c3b0 : decide (0 < (a0.size : Int)) = false := decide_eq_false c3
      have c3b1 : decide (0 < a0.size) = false := decide_eq_false (by omega)
      clear c3
      (first | rw [c3b0] | (simp only [i64_w, i32_w]; rw [c3b0]) | skip)
      have H' := Aside0.mk H
      clear H
      go_wp2
      go_meet
      case rel => exact ⟨_, (false), (by first | rfl | (simp; done) | (simp [*]; done)), H', ⟨by first | omega | exact Nat.le_refl _⟩, by repeat (first | exact Drawn0.refl _ | apply Drawn0.step)⟩
  case rest =>
    clear HC2
    try clear c1
    try clear p2
    try clear c3
    try clear c3b0
    try clear c3b1
    try clear c4
    try clear c4b0
    try clear c4b1
    try clear p5
    try clear q5
    try clear hx5
    try clear qi5
    try clear p5
    try clear q5
    obtain ⟨kq, x4_1, rfl, HA, HJ1, ⟨mc1, rfl⟩⟩ := hcut
    cases kq with
    | zero => exact absurd HA.out (by simp [tocsinref8_Num.j0])
    | succ kj1 =>
      have H := HA.out
      clear HA
      simp only [tocsinref8_Num.j0] at H
      have HC6 := Aside0.mk H
      clear H
      go_upto_if 15 with (fail)
      go_cut [0] (fun v0 wc => ∃ (kq : Nat) (x0_5 : ByteArray), v0 = .string x0_5 ∧ Aside0 (tocsinref8_Num.j1 kq x0_5 x4_1 = some (r1, r2)) ∧ Aside0 (kq ≤ kj1) ∧ Drawn0 w wc)
      case first =>
        have H := HC6.out
        clear HC6
        by_cases c7 : x4_1 = true
        · subst c7
          have H1 : (if 1 ≤ (a0.size : Int) then (tocsinref8_Num.j1 kj1 (a0.extract 1 a0.size) true) else (none)) = some (r1, r2) := by rw [if_pos rfl] at H; exact H
          clear H
          have H := H1
          clear H1
          by_cases c8 : 1 ≤ (a0.size : Int)
          · rw [if_pos c8] at H
            have c8b0 := eq_true c8
            have c8b1 : decide (1 ≤ (a0.size : Int)) = true := decide_eq_true c8
            clear c8
            have H' := Aside0.mk H
            clear H
            go_wp2
            go_meet
            case rel => exact ⟨_, (a0.extract 1 a0.size), (by first | rfl | (simp; done) | (simp [*]; done)), H', ⟨by have := HJ1.out; first | omega | exact Nat.le_refl _⟩, by repeat (first | exact Drawn0.refl _ | apply Drawn0.step)⟩
          · rw [if_neg c8] at H
            exact absurd H (by simp)
        · replace c7 := Bool.eq_false_iff.mpr c7
          subst c7
          have H1 : (tocsinref8_Num.j1 kj1 a0 false) = some (r1, r2) := by rw [if_neg (show ¬ (false = true) by decide)] at H; exact H
          clear H
          have H := H1
          clear H1
          have H' := Aside0.mk H
          clear H
          go_wp2
          go_meet
          case rel => exact ⟨_, (a0), (by first | rfl | (simp; done) | (simp [*]; done)), H', ⟨by have := HJ1.out; first | omega | exact Nat.le_refl _⟩, by repeat (first | exact Drawn0.refl _ | apply Drawn0.step)⟩
      case rest =>
        clear HC6
        try clear c1
        try clear p2
        try clear c3
        try clear c3b0
        try clear c3b1
        try clear c4
        try clear c4b0
        try clear c4b1
        try clear p5
        try clear q5
        try clear hx5
        try clear qi5
        try clear c7
        try clear c8
        try clear c8b0
        try clear c8b1
        try clear p2
        try clear p5
        try clear q5
        obtain ⟨kq, x0_5, rfl, HA, HJ5, ⟨mc5, rfl⟩⟩ := hcut
        cases kq with
        | zero => exact absurd HA.out (by simp [tocsinref8_Num.j1])
        | succ kj5 =>
          have H := HA.out
          clear HA
          simp only [tocsinref8_Num.j1] at H
          have HC9 := Aside0.mk H
          clear H
          go_upto_region 4 with (fail)
          go_cut [25] (fun v25 wc => ∃ (kq : Nat) (x25_8 : Bool), v25 = .bool x25_8 ∧ Aside0 (tocsinref8_Num.j2 kq x0_5 x4_1 x25_8 = some (r1, r2)) ∧ Aside0 (kq ≤ kj5) ∧ Drawn0 w wc)
          case first =>
            have H := HC9.out
            clear HC9
            by_cases c10 : (x0_5.size : Int) < 1
            · rw [if_pos c10] at H
              have c10b0 : decide ((x0_5.size : Int) < 1) = true := decide_eq_true c10
              have c10b1 : decide (x0_5.size < 1) = true := decide_eq_true (by omega)
              clear c10
              (first | rw [c10b0] | (simp only [i64_w, i32_w]; rw [c10b0]) | skip)
              have H' := Aside0.mk H
              clear H
              go_wp2
              go_meet
              case rel => exact ⟨_, (true), (by first | rfl | (simp; done) | (simp [*]; done)), H', ⟨by have := HJ1.out; have := HJ5.out; first | omega | exact Nat.le_refl _⟩, by repeat (first | exact Drawn0.refl _ | apply Drawn0.step)⟩
            · rw [if_neg c10] at H
              have c10b0 : decide ((x0_5.size : Int) < 1) = false := decide_eq_false c10
              have c10b1 : decide (x0_5.size < 1) = false := decide_eq_false (by omega)
              clear c10
              (first | rw [c10b0] | (simp only [i64_w, i32_w]; rw [c10b0]) | skip)
              have H' := Aside0.mk H
              clear H
              go_wp2
              go_meet
              case rel => exact ⟨_, (decide ((x0_5.size : Int) > 12)), (by first | rfl | (simp; done) | (simp [*]; done)), H', ⟨by have := HJ1.out; have := HJ5.out; first | omega | exact Nat.le_refl _⟩, by repeat (first | exact Drawn0.refl _ | apply Drawn0.step)⟩
          case rest =>
            clear HC9
            try clear c1
            try clear p2
            try clear c3
            try clear c3b0
            try clear c3b1
            try clear c4
            try clear c4b0
            try clear c4b1
            try clear c5
            try clear p5
            try clear q5
            try clear hx5
            try clear qi5
            try clear c7
            try clear c8
            try clear c8b0
            try clear c8b1
            try clear c10
            try clear c10b0
            try clear c10b1
            try clear p2
            try clear p5
            try clear q5
            obtain ⟨kq, x25_8, rfl, HA, HJ8, ⟨mc8, rfl⟩⟩ := hcut
            cases kq with
            | zero => exact absurd HA.out (by simp [tocsinref8_Num.j2])
            | succ kj8 =>
              have H := HA.out
              clear HA
              simp only [tocsinref8_Num.j2] at H
              by_cases c11 : x25_8 = true
              · subst c11
                have H1 : (some (0, false)) = some (r1, r2) := by rw [if_pos rfl] at H; exact H
                clear H
                have H := H1
                clear H1
                simp only [Option.some.injEq, Prod.mk.injEq] at H
                obtain ⟨rfl, rfl⟩ := H
                go_wp2
                go_ret2
                exact ⟨by first | rfl | (simp; done) | (simp [*]; done), by repeat (first | exact Drawn0.refl _ | apply Drawn0.step)⟩
              · replace c11 := Bool.eq_false_iff.mpr c11
                subst c11
                have H1 : (tocsinref8_Num.l0 kj8 x0_5 x4_1 0 0) = some (r1, r2) := by rw [if_neg (show ¬ (false = true) by decide)] at H; exact H
                clear H
                have H := H1
                clear H1
                have H' := Aside0.mk H
                clear H
                go_wp2
                go_loopg [5, 6] kj8 (fun kq v5 v6 w' => ∃ (x5_4 : Int) (x6_4 : Int), v5 = .int .i64 x5_4 ∧ v6 = .int .i64 x6_4 ∧ Aside0 (tocsinref8_Num.l0 kq x0_5 x4_1 x5_4 x6_4 = some (r1, r2)) ∧ Aside0 (kq ≤ kj8) ∧ Drawn0 w w')
                case atStart => exact ⟨(0), (0), (by first | rfl | (simp; done) | (simp [*]; done)), (by first | rfl | (simp; done) | (simp [*]; done)), H', ⟨Nat.le_refl _⟩, by repeat (first | exact Drawn0.refl _ | apply Drawn0.step)⟩
                case round =>
                  clear H'
                  try clear c1
                  try clear p2
                  try clear c3
                  try clear c3b0
                  try clear c3b1
                  try clear c4
                  try clear c4b0
                  try clear c4b1
                  try clear c5
                  try clear p5
                  try clear q5
                  try clear hx5
                  try clear qi5
                  try clear c7
                  try clear c8
                  try clear c8b0
                  try clear c8b1
                  try clear c10
                  try clear c10b0
                  try clear c10b1
                  try clear c11
                  try clear p2
                  try clear p5
                  try clear q5
                  obtain ⟨x5_4, x6_4, rfl, rfl, HA, HK4, ⟨m4, rfl⟩⟩ := hrel
                  cases gk with
                  | zero => exact absurd HA.out (by simp [tocsinref8_Num.l0])
                  | succ k4 =>
                    have H := HA.out
                    clear HA
                    simp only [tocsinref8_Num.l0] at H
                    by_cases c12 : x6_4 < (x0_5.size : Int)
                    · rw [if_pos c12] at H
                      have c12b0 : decide (x6_4 < (x0_5.size : Int)) = true := decide_eq_true c12
                      clear c12
                      by_cases c13 : 0 ≤ x6_4
                      · rw [if_pos c13] at H
                        have c13b0 : decide (0 ≤ x6_4) = true := decide_eq_true c13
                        clear c13
                        by_cases c15 : (bt x0_5 x6_4) < 48
                        · rw [if_pos c15] at H
                          have c15b0 : decide ((bt x0_5 x6_4) < 48) = true := decide_eq_true c15
                          clear c15
                          simp only [Option.some.injEq, Prod.mk.injEq] at H
                          obtain ⟨rfl, rfl⟩ := H
                          have p14 : 0 ≤ (x6_4 : Int) := of_decide_eq_true (by first | (with_reducible assumption) | assumption)
                          have q14 : x6_4 < (x0_5.size : Int) := of_decide_eq_true (by first | (with_reducible assumption) | assumption)
                          have hx14 := bt_at x0_5 x6_4
                          replace p14 := eq_true p14
                          replace q14 := eq_true q14
                          go_wp2
                          go_ret2
                          exact ⟨by first | rfl | (simp; done) | (simp [*]; done), by repeat (first | exact Drawn0.refl _ | apply Drawn0.step)⟩
                        · rw [if_neg c15] at H
                          have c15b0 : decide ((bt x0_5 x6_4) < 48) = false := decide_eq_false c15
                          clear c15
                          by_cases c17 : (bt x0_5 x6_4) > 57
                          · rw [if_pos c17] at H
                            have c17b0 : decide (57 < (bt x0_5 x6_4)) = true := decide_eq_true c17
                            clear c17
                            simp only [Option.some.injEq, Prod.mk.injEq] at H
                            obtain ⟨rfl, rfl⟩ := H
                            have p14 : 0 ≤ (x6_4 : Int) := of_decide_eq_true (by first | (with_reducible assumption) | assumption)
                            have q14 : x6_4 < (x0_5.size : Int) := of_decide_eq_true (by first | (with_reducible assumption) | assumption)
                            have hx14 := bt_at x0_5 x6_4
                            replace p14 := eq_true p14
                            replace q14 := eq_true q14
                            have p16 : 0 ≤ (x6_4 : Int) := of_decide_eq_true (by first | (with_reducible assumption) | assumption)
                            have q16 : x6_4 < (x0_5.size : Int) := of_decide_eq_true (by first | (with_reducible assumption) | assumption)
                            have hx16 := bt_at x0_5 x6_4
                            replace p16 := eq_true p16
                            replace q16 := eq_true q16
                            go_wp2
                            go_ret2
                            exact ⟨by first | rfl | (simp; done) | (simp [*]; done), by repeat (first | exact Drawn0.refl _ | apply Drawn0.step)⟩
                          · rw [if_neg c17] at H
                            have c17b0 : decide (57 < (bt x0_5 x6_4)) = false := decide_eq_false c17
                            clear c17
                            have H' := Aside0.mk H
                            clear H
                            have p14 : 0 ≤ (x6_4 : Int) := of_decide_eq_true (by first | (with_reducible assumption) | assumption)
                            have q14 : x6_4 < (x0_5.size : Int) := of_decide_eq_true (by first | (with_reducible assumption) | assumption)
                            have hx14 := bt_at x0_5 x6_4
                            replace p14 := eq_true p14
                            replace q14 := eq_true q14
                            have p16 : 0 ≤ (x6_4 : Int) := of_decide_eq_true (by first | (with_reducible assumption) | assumption)
                            have q16 : x6_4 < (x0_5.size : Int) := of_decide_eq_true (by first | (with_reducible assumption) | assumption)
                            have hx16 := bt_at x0_5 x6_4
                            replace p16 := eq_true p16
                            replace q16 := eq_true q16
                            have p18 : 0 ≤ (x6_4 : Int) := of_decide_eq_true (by first | (with_reducible assumption) | assumption)
                            have q18 : x6_4 < (x0_5.size : Int) := of_decide_eq_true (by first | (with_reducible assumption) | assumption)
                            have hx18 := bt_at x0_5 x6_4
                            replace p18 := eq_true p18
                            replace q18 := eq_true q18
                            go_wp2
                            go_roundg k4
                            case measure => have := HJ1.out; have := HJ5.out; have := HJ8.out; have := HK4.out; omega
                            case rel => exact ⟨(wrap64 ((wrap64 (10 * x5_4)) + (((bt x0_5 x6_4) - 48) % 256))), (wrap64 (x6_4 + 1)), (by first | rfl | (simp; done) | (simp [*]; done)), (by first | rfl | (simp; done) | (simp [*]; done)), H', ⟨by have := HJ1.out; have := HJ5.out; have := HJ8.out; have := HK4.out; omega⟩, by repeat (first | exact Drawn0.refl _ | apply Drawn0.step)⟩
                      · rw [if_neg c13] at H
                        exact absurd H (by simp)
                    · rw [if_neg c12] at H
                      have c12b0 : decide (x6_4 < (x0_5.size : Int)) = false := decide_eq_false c12
                      clear c12
                      by_cases c19 : x4_1 = true
                      · subst c19
                        have H1 : (some (wrap64 (-x5_4), true)) = some (r1, r2) := by rw [if_pos rfl] at H; exact H
                        clear H
                        have H := H1
                        clear H1
                        simp only [Option.some.injEq, Prod.mk.injEq] at H
                        obtain ⟨rfl, rfl⟩ := H
                        go_wp2
                        go_ret2
                        exact ⟨by first | rfl | (simp; done) | (simp [*]; done), by repeat (first | exact Drawn0.refl _ | apply Drawn0.step)⟩
                      · replace c19 := Bool.eq_false_iff.mpr c19
                        subst c19
                        have H1 : (some (x5_4, true)) = some (r1, r2) := by rw [if_neg (show ¬ (false = true) by decide)] at H; exact H
                        clear H
                        have H := H1
                        clear H1
                        simp only [Option.some.injEq, Prod.mk.injEq] at H
                        obtain ⟨rfl, rfl⟩ := H
                        go_wp2
                        go_ret2
                        exact ⟨by first | rfl | (simp; done) | (simp [*]; done), by repeat (first | exact Drawn0.refl _ | apply Drawn0.step)⟩

end Go.Proofs.YtfoafigpimhppaaDoor.PNm
