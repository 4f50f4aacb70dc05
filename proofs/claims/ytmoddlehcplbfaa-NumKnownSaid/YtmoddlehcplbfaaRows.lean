/-
  No cell of these rows narrows 'for every input' (looked for: loops, veiled, ifaces, maps, wideKeys, modest, calm, conditions, laid).
  DERIVED. THE GIVEN ROWS OF THIS SEAT. 8 by the template 'for every input the law returns true; each argument reads behind the call as it read before'; 0 by the template 'total and deterministic' (their statements: YtmoddlehcplbfaaTotals.lean).
  GIVEN WITH THE SEED: the statements are not yours to turn. If you find one false, say at which input.
  Laid BY PROGRAM, IN A SANDBOX (cutbox-rows.mjs): the forced cells as the released guide's own fill.sh prints them over the translation 679519071ac8e137… (all of the seat's roots in one cut). By AI agents, Wed Nov 11 2026. No macro, syntax, notation, axiom, sorry.
-/
import Derived.Test.YtmoddlehcplbfaaChecked
import GoSem.Claim
import GoSem.ClaimJoined
import GoSem.ClaimMapViews
import Derived.JoinedTies
import Derived.KernelRfl
namespace Go.Proofs.Ytmoddlehcplbfaa
/- THE CELL 'sum', in the pinned program and in every row, IS THE sha256 OF THE DUMP (.gsa) THAT YtmoddlehcplbfaaProg.lean LOADS. Nothing in Lean hashes anything: it is a label: what it is worth is what the hold of that sum in a sandbox is worth. -/
noncomputable def Try.pinned : Pinned := { name := "ytmoddlehcplbfaa", sum := "679519071ac8e137877719885a77a9948da40ab5f0cd0492e7a616536ba22795", checked := Try.checked }
namespace Rows
def none {H : Type} : Left H := { results := [], args := [] }

/-- 'tocsinlaw1.NumOrder': WHATEVER THE INPUT: true; the input reads as it did. -/
def numOrderSpec : ChangeSpec := { name := "numOrder", fn := fun _ => fun
  | [d1, d2, d3, d4] => { results := [.lit (.bool true)], args := [d1, d2, d3, d4] }
  | _ => none }
def numOrderRow : OpenClaim := { program := "ytmoddlehcplbfaa", sum := "679519071ac8e137877719885a77a9948da40ab5f0cd0492e7a616536ba22795", func := "tocsin/tocsinlaw1.NumOrder", spec := "numOrder", named := ["math/bits.divideError", "math/bits.overflowError"], apart := false }
def NumOrderSaid : Prop := numOrderRow.holds Try.pinned (OpenSpec.ofChange numOrderSpec)

/-- ITS FALSE NEIGHBOUR: 'it returns false'. Refute it at one input. -/
def numOrderWrong : ChangeSpec := { name := "numOrder", fn := fun _ => fun
  | [d1, d2, d3, d4] => { results := [.lit (.bool false)], args := [d1, d2, d3, d4] }
  | _ => none }
def NumOrderWrongFalsely : Prop := numOrderRow.holds Try.pinned (OpenSpec.ofChange numOrderWrong)

/-- 'tocsinlaw1.NumDivides': WHATEVER THE INPUT: true; the input reads as it did. -/
def numDividesSpec : ChangeSpec := { name := "numDivides", fn := fun _ => fun
  | [d1, d2, d3] => { results := [.lit (.bool true)], args := [d1, d2, d3] }
  | _ => none }
def numDividesRow : OpenClaim := { program := "ytmoddlehcplbfaa", sum := "679519071ac8e137877719885a77a9948da40ab5f0cd0492e7a616536ba22795", func := "tocsin/tocsinlaw1.NumDivides", spec := "numDivides", named := ["math/bits.divideError", "math/bits.overflowError"], apart := false }
def NumDividesSaid : Prop := numDividesRow.holds Try.pinned (OpenSpec.ofChange numDividesSpec)

/-- ITS FALSE NEIGHBOUR: 'it returns false'. Refute it at one input. -/
def numDividesWrong : ChangeSpec := { name := "numDivides", fn := fun _ => fun
  | [d1, d2, d3] => { results := [.lit (.bool false)], args := [d1, d2, d3] }
  | _ => none }
def NumDividesWrongFalsely : Prop := numDividesRow.holds Try.pinned (OpenSpec.ofChange numDividesWrong)

/-- 'tocsinlaw1.NumTurned': WHATEVER THE INPUT: true; the input reads as it did. -/
def numTurnedSpec : ChangeSpec := { name := "numTurned", fn := fun _ => fun
  | [d1, d2, d3] => { results := [.lit (.bool true)], args := [d1, d2, d3] }
  | _ => none }
def numTurnedRow : OpenClaim := { program := "ytmoddlehcplbfaa", sum := "679519071ac8e137877719885a77a9948da40ab5f0cd0492e7a616536ba22795", func := "tocsin/tocsinlaw1.NumTurned", spec := "numTurned", named := ["math/bits.divideError", "math/bits.overflowError"], apart := false }
def NumTurnedSaid : Prop := numTurnedRow.holds Try.pinned (OpenSpec.ofChange numTurnedSpec)

/-- ITS FALSE NEIGHBOUR: 'it returns false'. Refute it at one input. -/
def numTurnedWrong : ChangeSpec := { name := "numTurned", fn := fun _ => fun
  | [d1, d2, d3] => { results := [.lit (.bool false)], args := [d1, d2, d3] }
  | _ => none }
def NumTurnedWrongFalsely : Prop := numTurnedRow.holds Try.pinned (OpenSpec.ofChange numTurnedWrong)

/-- 'tocsinlaw1.NumBack': WHATEVER THE INPUT: true; the input reads as it did. -/
def numBackSpec : ChangeSpec := { name := "numBack", fn := fun _ => fun
  | [d1, d2, d3] => { results := [.lit (.bool true)], args := [d1, d2, d3] }
  | _ => none }
def numBackRow : OpenClaim := { program := "ytmoddlehcplbfaa", sum := "679519071ac8e137877719885a77a9948da40ab5f0cd0492e7a616536ba22795", func := "tocsin/tocsinlaw1.NumBack", spec := "numBack", named := ["math/bits.divideError", "math/bits.overflowError"], apart := false }
def NumBackSaid : Prop := numBackRow.holds Try.pinned (OpenSpec.ofChange numBackSpec)

/-- ITS FALSE NEIGHBOUR: 'it returns false'. Refute it at one input. -/
def numBackWrong : ChangeSpec := { name := "numBack", fn := fun _ => fun
  | [d1, d2, d3] => { results := [.lit (.bool false)], args := [d1, d2, d3] }
  | _ => none }
def NumBackWrongFalsely : Prop := numBackRow.holds Try.pinned (OpenSpec.ofChange numBackWrong)

/-- 'tocsinlaw1.NumLcm': WHATEVER THE INPUT: true; the input reads as it did. -/
def numLcmSpec : ChangeSpec := { name := "numLcm", fn := fun _ => fun
  | [d1, d2] => { results := [.lit (.bool true)], args := [d1, d2] }
  | _ => none }
def numLcmRow : OpenClaim := { program := "ytmoddlehcplbfaa", sum := "679519071ac8e137877719885a77a9948da40ab5f0cd0492e7a616536ba22795", func := "tocsin/tocsinlaw1.NumLcm", spec := "numLcm", named := ["math/bits.divideError", "math/bits.overflowError"], apart := false }
def NumLcmSaid : Prop := numLcmRow.holds Try.pinned (OpenSpec.ofChange numLcmSpec)

/-- ITS FALSE NEIGHBOUR: 'it returns false'. Refute it at one input. -/
def numLcmWrong : ChangeSpec := { name := "numLcm", fn := fun _ => fun
  | [d1, d2] => { results := [.lit (.bool false)], args := [d1, d2] }
  | _ => none }
def NumLcmWrongFalsely : Prop := numLcmRow.holds Try.pinned (OpenSpec.ofChange numLcmWrong)

/-- 'tocsinlaw1.NumSays': WHATEVER THE INPUT: true; the input reads as it did. -/
def numSaysSpec : ChangeSpec := { name := "numSays", fn := fun _ => fun
  | [d1, d2, d3, d4] => { results := [.lit (.bool true)], args := [d1, d2, d3, d4] }
  | _ => none }
def numSaysRow : OpenClaim := { program := "ytmoddlehcplbfaa", sum := "679519071ac8e137877719885a77a9948da40ab5f0cd0492e7a616536ba22795", func := "tocsin/tocsinlaw1.NumSays", spec := "numSays", named := ["math/bits.divideError", "math/bits.overflowError"], apart := false }
def NumSaysSaid : Prop := numSaysRow.holds Try.pinned (OpenSpec.ofChange numSaysSpec)

/-- ITS FALSE NEIGHBOUR: 'it returns false'. Refute it at one input. -/
def numSaysWrong : ChangeSpec := { name := "numSays", fn := fun _ => fun
  | [d1, d2, d3, d4] => { results := [.lit (.bool false)], args := [d1, d2, d3, d4] }
  | _ => none }
def NumSaysWrongFalsely : Prop := numSaysRow.holds Try.pinned (OpenSpec.ofChange numSaysWrong)

/-- 'tocsinlaw1.NumZero': WHATEVER THE INPUT: true; the input reads as it did. -/
def numZeroSpec : ChangeSpec := { name := "numZero", fn := fun _ => fun
  | [d1, d2] => { results := [.lit (.bool true)], args := [d1, d2] }
  | _ => none }
def numZeroRow : OpenClaim := { program := "ytmoddlehcplbfaa", sum := "679519071ac8e137877719885a77a9948da40ab5f0cd0492e7a616536ba22795", func := "tocsin/tocsinlaw1.NumZero", spec := "numZero", named := ["math/bits.divideError", "math/bits.overflowError"], apart := false }
def NumZeroSaid : Prop := numZeroRow.holds Try.pinned (OpenSpec.ofChange numZeroSpec)

/-- ITS FALSE NEIGHBOUR: 'it returns false'. Refute it at one input. -/
def numZeroWrong : ChangeSpec := { name := "numZero", fn := fun _ => fun
  | [d1, d2] => { results := [.lit (.bool false)], args := [d1, d2] }
  | _ => none }
def NumZeroWrongFalsely : Prop := numZeroRow.holds Try.pinned (OpenSpec.ofChange numZeroWrong)

/-- 'tocsinlaw1.NumKnown': WHATEVER THE INPUT: true; the input reads as it did. -/
def numKnownSpec : ChangeSpec := { name := "numKnown", fn := fun _ => fun
  | [] => { results := [.lit (.bool true)], args := [] }
  | _ => none }
def numKnownRow : OpenClaim := { program := "ytmoddlehcplbfaa", sum := "679519071ac8e137877719885a77a9948da40ab5f0cd0492e7a616536ba22795", func := "tocsin/tocsinlaw1.NumKnown", spec := "numKnown", named := ["math/bits.divideError", "math/bits.overflowError"], apart := false }
def NumKnownSaid : Prop := numKnownRow.holds Try.pinned (OpenSpec.ofChange numKnownSpec)

/-- ITS FALSE NEIGHBOUR: 'it returns false'. Refute it at one input. -/
def numKnownWrong : ChangeSpec := { name := "numKnown", fn := fun _ => fun
  | [] => { results := [.lit (.bool false)], args := [] }
  | _ => none }
def NumKnownWrongFalsely : Prop := numKnownRow.holds Try.pinned (OpenSpec.ofChange numKnownWrong)

/- THE SECOND FORM. 'bulk': how many values and letters a reading holds, each counted each time it is reached (what is shared counts as often as it is met; a slice's spare places count too). A statement '..UptoSaid' is the law's where the arguments, and the package variables that the reading takes, are together of bulk at most 1048576: NARROWER than '..Said'. Prove '..Said' where nothing that the law and all that it calls make is longer than what came in: it says more and counts as full. Else prove '..UptoSaid'. A law counts once. -/
mutual
def uptoBulk {H : Type} : DataW H → Nat
  | .lit (.string bytes) => bytes.length + 1
  | .lit _ => 1
  | .nil => 1
  | .ptr d => uptoBulk d + 1
  | .slice elems spare => uptoBulkAll elems + uptoBulkAll spare + 1
  | .agg parts => uptoBulkAll parts + 1
  | .iface _ d => uptoBulk d + 1
  | .map entries => uptoBulkEntries entries + 1
  | .held _ => 1
def uptoBulkAll {H : Type} : List (DataW H) → Nat
  | [] => 0
  | d :: r => uptoBulk d + uptoBulkAll r
def uptoBulkEntries {H : Type} : List (Lit × DataW H) → Nat
  | [] => 0
  | x :: r => uptoBulkEntry x + uptoBulkEntries r
def uptoBulkEntry {H : Type} : Lit × DataW H → Nat
  | (.string bytes, d) => bytes.length + uptoBulk d + 1
  | (_, d) => uptoBulk d + 1
 end
def uptoSmall : (H : Type) → List (DataW H) → Bool := fun _ ds => decide (uptoBulkAll ds ≤ 1048576)
def OpenSpec.upto (s : _root_.Go.ChangeSpec) : _root_.Go.OpenSpec := { _root_.Go.OpenSpec.ofChange s with cond := some uptoSmall }

/-- 'tocsinlaw1.NumOrder', WHERE WHAT IT READS IS OF BULK AT MOST 1048576: true; the input reads as it did. -/
def numOrderUptoRow : OpenClaim := { program := "ytmoddlehcplbfaa", sum := "679519071ac8e137877719885a77a9948da40ab5f0cd0492e7a616536ba22795", func := "tocsin/tocsinlaw1.NumOrder", spec := "numOrder", named := ["math/bits.divideError", "math/bits.overflowError"], apart := false, narrowed := true }
def NumOrderUptoSaid : Prop := numOrderUptoRow.holds Try.pinned (OpenSpec.upto numOrderSpec)

/-- 'tocsinlaw1.NumDivides', WHERE WHAT IT READS IS OF BULK AT MOST 1048576: true; the input reads as it did. -/
def numDividesUptoRow : OpenClaim := { program := "ytmoddlehcplbfaa", sum := "679519071ac8e137877719885a77a9948da40ab5f0cd0492e7a616536ba22795", func := "tocsin/tocsinlaw1.NumDivides", spec := "numDivides", named := ["math/bits.divideError", "math/bits.overflowError"], apart := false, narrowed := true }
def NumDividesUptoSaid : Prop := numDividesUptoRow.holds Try.pinned (OpenSpec.upto numDividesSpec)

/-- 'tocsinlaw1.NumTurned', WHERE WHAT IT READS IS OF BULK AT MOST 1048576: true; the input reads as it did. -/
def numTurnedUptoRow : OpenClaim := { program := "ytmoddlehcplbfaa", sum := "679519071ac8e137877719885a77a9948da40ab5f0cd0492e7a616536ba22795", func := "tocsin/tocsinlaw1.NumTurned", spec := "numTurned", named := ["math/bits.divideError", "math/bits.overflowError"], apart := false, narrowed := true }
def NumTurnedUptoSaid : Prop := numTurnedUptoRow.holds Try.pinned (OpenSpec.upto numTurnedSpec)

/-- 'tocsinlaw1.NumBack', WHERE WHAT IT READS IS OF BULK AT MOST 1048576: true; the input reads as it did. -/
def numBackUptoRow : OpenClaim := { program := "ytmoddlehcplbfaa", sum := "679519071ac8e137877719885a77a9948da40ab5f0cd0492e7a616536ba22795", func := "tocsin/tocsinlaw1.NumBack", spec := "numBack", named := ["math/bits.divideError", "math/bits.overflowError"], apart := false, narrowed := true }
def NumBackUptoSaid : Prop := numBackUptoRow.holds Try.pinned (OpenSpec.upto numBackSpec)

/-- 'tocsinlaw1.NumLcm', WHERE WHAT IT READS IS OF BULK AT MOST 1048576: true; the input reads as it did. -/
def numLcmUptoRow : OpenClaim := { program := "ytmoddlehcplbfaa", sum := "679519071ac8e137877719885a77a9948da40ab5f0cd0492e7a616536ba22795", func := "tocsin/tocsinlaw1.NumLcm", spec := "numLcm", named := ["math/bits.divideError", "math/bits.overflowError"], apart := false, narrowed := true }
def NumLcmUptoSaid : Prop := numLcmUptoRow.holds Try.pinned (OpenSpec.upto numLcmSpec)

/-- 'tocsinlaw1.NumSays', WHERE WHAT IT READS IS OF BULK AT MOST 1048576: true; the input reads as it did. -/
def numSaysUptoRow : OpenClaim := { program := "ytmoddlehcplbfaa", sum := "679519071ac8e137877719885a77a9948da40ab5f0cd0492e7a616536ba22795", func := "tocsin/tocsinlaw1.NumSays", spec := "numSays", named := ["math/bits.divideError", "math/bits.overflowError"], apart := false, narrowed := true }
def NumSaysUptoSaid : Prop := numSaysUptoRow.holds Try.pinned (OpenSpec.upto numSaysSpec)

/-- 'tocsinlaw1.NumZero', WHERE WHAT IT READS IS OF BULK AT MOST 1048576: true; the input reads as it did. -/
def numZeroUptoRow : OpenClaim := { program := "ytmoddlehcplbfaa", sum := "679519071ac8e137877719885a77a9948da40ab5f0cd0492e7a616536ba22795", func := "tocsin/tocsinlaw1.NumZero", spec := "numZero", named := ["math/bits.divideError", "math/bits.overflowError"], apart := false, narrowed := true }
def NumZeroUptoSaid : Prop := numZeroUptoRow.holds Try.pinned (OpenSpec.upto numZeroSpec)

/-- 'tocsinlaw1.NumKnown', WHERE WHAT IT READS IS OF BULK AT MOST 1048576: true; the input reads as it did. -/
def numKnownUptoRow : OpenClaim := { program := "ytmoddlehcplbfaa", sum := "679519071ac8e137877719885a77a9948da40ab5f0cd0492e7a616536ba22795", func := "tocsin/tocsinlaw1.NumKnown", spec := "numKnown", named := ["math/bits.divideError", "math/bits.overflowError"], apart := false, narrowed := true }
def NumKnownUptoSaid : Prop := numKnownUptoRow.holds Try.pinned (OpenSpec.upto numKnownSpec)

end Rows
end Go.Proofs.Ytmoddlehcplbfaa
