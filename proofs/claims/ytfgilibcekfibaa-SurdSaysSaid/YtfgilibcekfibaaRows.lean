/-
  No cell of these rows narrows 'for every input' (looked for: loops, veiled, ifaces, maps, wideKeys, modest, calm, conditions, laid).
  DERIVED. THE GIVEN ROWS OF THIS SEAT. 7 by the template 'for every input the law returns true; each argument reads behind the call as it read before'; 0 by the template 'total and deterministic' (their statements: YtfgilibcekfibaaTotals.lean).
  GIVEN WITH THE SEED: the statements are not yours to turn. If you find one false, say at which input.
  Laid BY PROGRAM, IN A SANDBOX (cutbox-rows.mjs): the forced cells as the released guide's own fill.sh prints them over the translation e3c776775a1cb9c2… (all of the seat's roots in one cut). By AI agents, Wed Nov 11 2026. No macro, syntax, notation, axiom, sorry.
-/
import Derived.Test.YtfgilibcekfibaaChecked
import GoSem.Claim
import GoSem.ClaimJoined
import GoSem.ClaimMapViews
import Derived.JoinedTies
import Derived.KernelRfl
namespace Go.Proofs.Ytfgilibcekfibaa
/- THE CELL 'sum', in the pinned program and in every row, IS THE sha256 OF THE DUMP (.gsa) THAT YtfgilibcekfibaaProg.lean LOADS. Nothing in Lean hashes anything: it is a label: what it is worth is what the hold of that sum in a sandbox is worth. -/
noncomputable def Try.pinned : Pinned := { name := "ytfgilibcekfibaa", sum := "e3c776775a1cb9c23e4d6b6550e56adbd0f468076e0d75eafecb87879746c604", checked := Try.checked }
namespace Rows
def none {H : Type} : Left H := { results := [], args := [] }

/-- 'tocsinlaw2.SurdTurned': WHATEVER THE INPUT: true; the input reads as it did. -/
def surdTurnedSpec : ChangeSpec := { name := "surdTurned", fn := fun _ => fun
  | [d1, d2] => { results := [.lit (.bool true)], args := [d1, d2] }
  | _ => none }
def surdTurnedRow : OpenClaim := { program := "ytfgilibcekfibaa", sum := "e3c776775a1cb9c23e4d6b6550e56adbd0f468076e0d75eafecb87879746c604", func := "tocsin/tocsinlaw2.SurdTurned", spec := "surdTurned", apart := false }
def SurdTurnedSaid : Prop := surdTurnedRow.holds Try.pinned (OpenSpec.ofChange surdTurnedSpec)

/-- ITS FALSE NEIGHBOUR: 'it returns false'. Refute it at one input. -/
def surdTurnedWrong : ChangeSpec := { name := "surdTurned", fn := fun _ => fun
  | [d1, d2] => { results := [.lit (.bool false)], args := [d1, d2] }
  | _ => none }
def SurdTurnedWrongFalsely : Prop := surdTurnedRow.holds Try.pinned (OpenSpec.ofChange surdTurnedWrong)

/-- 'tocsinlaw2.SurdSquares': WHATEVER THE INPUT: true; the input reads as it did. -/
def surdSquaresSpec : ChangeSpec := { name := "surdSquares", fn := fun _ => fun
  | [d1, d2, d3, d4] => { results := [.lit (.bool true)], args := [d1, d2, d3, d4] }
  | _ => none }
def surdSquaresRow : OpenClaim := { program := "ytfgilibcekfibaa", sum := "e3c776775a1cb9c23e4d6b6550e56adbd0f468076e0d75eafecb87879746c604", func := "tocsin/tocsinlaw2.SurdSquares", spec := "surdSquares", apart := false }
def SurdSquaresSaid : Prop := surdSquaresRow.holds Try.pinned (OpenSpec.ofChange surdSquaresSpec)

/-- ITS FALSE NEIGHBOUR: 'it returns false'. Refute it at one input. -/
def surdSquaresWrong : ChangeSpec := { name := "surdSquares", fn := fun _ => fun
  | [d1, d2, d3, d4] => { results := [.lit (.bool false)], args := [d1, d2, d3, d4] }
  | _ => none }
def SurdSquaresWrongFalsely : Prop := surdSquaresRow.holds Try.pinned (OpenSpec.ofChange surdSquaresWrong)

/-- 'tocsinlaw2.SurdGrows': WHATEVER THE INPUT: true; the input reads as it did. -/
def surdGrowsSpec : ChangeSpec := { name := "surdGrows", fn := fun _ => fun
  | [d1, d2, d3, d4, d5] => { results := [.lit (.bool true)], args := [d1, d2, d3, d4, d5] }
  | _ => none }
def surdGrowsRow : OpenClaim := { program := "ytfgilibcekfibaa", sum := "e3c776775a1cb9c23e4d6b6550e56adbd0f468076e0d75eafecb87879746c604", func := "tocsin/tocsinlaw2.SurdGrows", spec := "surdGrows", apart := false }
def SurdGrowsSaid : Prop := surdGrowsRow.holds Try.pinned (OpenSpec.ofChange surdGrowsSpec)

/-- ITS FALSE NEIGHBOUR: 'it returns false'. Refute it at one input. -/
def surdGrowsWrong : ChangeSpec := { name := "surdGrows", fn := fun _ => fun
  | [d1, d2, d3, d4, d5] => { results := [.lit (.bool false)], args := [d1, d2, d3, d4, d5] }
  | _ => none }
def SurdGrowsWrongFalsely : Prop := surdGrowsRow.holds Try.pinned (OpenSpec.ofChange surdGrowsWrong)

/-- 'tocsinlaw2.SurdTwo': WHATEVER THE INPUT: true; the input reads as it did. -/
def surdTwoSpec : ChangeSpec := { name := "surdTwo", fn := fun _ => fun
  | [d1, d2, d3] => { results := [.lit (.bool true)], args := [d1, d2, d3] }
  | _ => none }
def surdTwoRow : OpenClaim := { program := "ytfgilibcekfibaa", sum := "e3c776775a1cb9c23e4d6b6550e56adbd0f468076e0d75eafecb87879746c604", func := "tocsin/tocsinlaw2.SurdTwo", spec := "surdTwo", apart := false }
def SurdTwoSaid : Prop := surdTwoRow.holds Try.pinned (OpenSpec.ofChange surdTwoSpec)

/-- ITS FALSE NEIGHBOUR: 'it returns false'. Refute it at one input. -/
def surdTwoWrong : ChangeSpec := { name := "surdTwo", fn := fun _ => fun
  | [d1, d2, d3] => { results := [.lit (.bool false)], args := [d1, d2, d3] }
  | _ => none }
def SurdTwoWrongFalsely : Prop := surdTwoRow.holds Try.pinned (OpenSpec.ofChange surdTwoWrong)

/-- 'tocsinlaw2.SurdCompared': WHATEVER THE INPUT: true; the input reads as it did. -/
def surdComparedSpec : ChangeSpec := { name := "surdCompared", fn := fun _ => fun
  | [d1, d2, d3] => { results := [.lit (.bool true)], args := [d1, d2, d3] }
  | _ => none }
def surdComparedRow : OpenClaim := { program := "ytfgilibcekfibaa", sum := "e3c776775a1cb9c23e4d6b6550e56adbd0f468076e0d75eafecb87879746c604", func := "tocsin/tocsinlaw2.SurdCompared", spec := "surdCompared", apart := false }
def SurdComparedSaid : Prop := surdComparedRow.holds Try.pinned (OpenSpec.ofChange surdComparedSpec)

/-- ITS FALSE NEIGHBOUR: 'it returns false'. Refute it at one input. -/
def surdComparedWrong : ChangeSpec := { name := "surdCompared", fn := fun _ => fun
  | [d1, d2, d3] => { results := [.lit (.bool false)], args := [d1, d2, d3] }
  | _ => none }
def SurdComparedWrongFalsely : Prop := surdComparedRow.holds Try.pinned (OpenSpec.ofChange surdComparedWrong)

/-- 'tocsinlaw2.SurdKnown': WHATEVER THE INPUT: true; the input reads as it did. -/
def surdKnownSpec : ChangeSpec := { name := "surdKnown", fn := fun _ => fun
  | [] => { results := [.lit (.bool true)], args := [] }
  | _ => none }
def surdKnownRow : OpenClaim := { program := "ytfgilibcekfibaa", sum := "e3c776775a1cb9c23e4d6b6550e56adbd0f468076e0d75eafecb87879746c604", func := "tocsin/tocsinlaw2.SurdKnown", spec := "surdKnown", apart := false }
def SurdKnownSaid : Prop := surdKnownRow.holds Try.pinned (OpenSpec.ofChange surdKnownSpec)

/-- ITS FALSE NEIGHBOUR: 'it returns false'. Refute it at one input. -/
def surdKnownWrong : ChangeSpec := { name := "surdKnown", fn := fun _ => fun
  | [] => { results := [.lit (.bool false)], args := [] }
  | _ => none }
def SurdKnownWrongFalsely : Prop := surdKnownRow.holds Try.pinned (OpenSpec.ofChange surdKnownWrong)

/-- 'tocsinlaw2.SurdSays': WHATEVER THE INPUT: true; the input reads as it did. -/
def surdSaysSpec : ChangeSpec := { name := "surdSays", fn := fun _ => fun
  | [d1, d2, d3, d4, d5] => { results := [.lit (.bool true)], args := [d1, d2, d3, d4, d5] }
  | _ => none }
def surdSaysRow : OpenClaim := { program := "ytfgilibcekfibaa", sum := "e3c776775a1cb9c23e4d6b6550e56adbd0f468076e0d75eafecb87879746c604", func := "tocsin/tocsinlaw2.SurdSays", spec := "surdSays", apart := false }
def SurdSaysSaid : Prop := surdSaysRow.holds Try.pinned (OpenSpec.ofChange surdSaysSpec)

/-- ITS FALSE NEIGHBOUR: 'it returns false'. Refute it at one input. -/
def surdSaysWrong : ChangeSpec := { name := "surdSays", fn := fun _ => fun
  | [d1, d2, d3, d4, d5] => { results := [.lit (.bool false)], args := [d1, d2, d3, d4, d5] }
  | _ => none }
def SurdSaysWrongFalsely : Prop := surdSaysRow.holds Try.pinned (OpenSpec.ofChange surdSaysWrong)

/- THE SECOND FORM. 'bulk': how many values and letters a reading holds, each counted each time it is reached (what is shared counts as often as it is met; a slice's spare places count too). A statement '..UptoSaid' is the law's where the arguments, and the package variables that the reading takes, are together of bulk at most 1048576: NARROWER than '..Said'. Prove '..Said' where nothing that the law and all that it calls make is longer than what came in: it says more and counts as full. Else prove '..UptoSaid'. A law counts once. -/
mutual
def uptoBulk {H : Type} : DataW H → Nat
  | .lit (.string bytes) => bytes.length + 1
  | .lit _ => 1
  | .nil => 1
  | .ptr d => uptoBulk d + 1
  | .slice elems spare => uptoBulkAll elems + uptoBulkAll spare + 1
  | .agg parts => uptoBulkAll parts + 1
  | .iface _ d => uptoBulk d + 1
  | .map entries => uptoBulkEntries entries + 1
  | .held _ => 1
def uptoBulkAll {H : Type} : List (DataW H) → Nat
  | [] => 0
  | d :: r => uptoBulk d + uptoBulkAll r
def uptoBulkEntries {H : Type} : List (Lit × DataW H) → Nat
  | [] => 0
  | x :: r => uptoBulkEntry x + uptoBulkEntries r
def uptoBulkEntry {H : Type} : Lit × DataW H → Nat
  | (.string bytes, d) => bytes.length + uptoBulk d + 1
  | (_, d) => uptoBulk d + 1
 end
def uptoSmall : (H : Type) → List (DataW H) → Bool := fun _ ds => decide (uptoBulkAll ds ≤ 1048576)
def OpenSpec.upto (s : _root_.Go.ChangeSpec) : _root_.Go.OpenSpec := { _root_.Go.OpenSpec.ofChange s with cond := some uptoSmall }

/-- 'tocsinlaw2.SurdTurned', WHERE WHAT IT READS IS OF BULK AT MOST 1048576: true; the input reads as it did. -/
def surdTurnedUptoRow : OpenClaim := { program := "ytfgilibcekfibaa", sum := "e3c776775a1cb9c23e4d6b6550e56adbd0f468076e0d75eafecb87879746c604", func := "tocsin/tocsinlaw2.SurdTurned", spec := "surdTurned", apart := false, narrowed := true }
def SurdTurnedUptoSaid : Prop := surdTurnedUptoRow.holds Try.pinned (OpenSpec.upto surdTurnedSpec)

/-- 'tocsinlaw2.SurdSquares', WHERE WHAT IT READS IS OF BULK AT MOST 1048576: true; the input reads as it did. -/
def surdSquaresUptoRow : OpenClaim := { program := "ytfgilibcekfibaa", sum := "e3c776775a1cb9c23e4d6b6550e56adbd0f468076e0d75eafecb87879746c604", func := "tocsin/tocsinlaw2.SurdSquares", spec := "surdSquares", apart := false, narrowed := true }
def SurdSquaresUptoSaid : Prop := surdSquaresUptoRow.holds Try.pinned (OpenSpec.upto surdSquaresSpec)

/-- 'tocsinlaw2.SurdGrows', WHERE WHAT IT READS IS OF BULK AT MOST 1048576: true; the input reads as it did. -/
def surdGrowsUptoRow : OpenClaim := { program := "ytfgilibcekfibaa", sum := "e3c776775a1cb9c23e4d6b6550e56adbd0f468076e0d75eafecb87879746c604", func := "tocsin/tocsinlaw2.SurdGrows", spec := "surdGrows", apart := false, narrowed := true }
def SurdGrowsUptoSaid : Prop := surdGrowsUptoRow.holds Try.pinned (OpenSpec.upto surdGrowsSpec)

/-- 'tocsinlaw2.SurdTwo', WHERE WHAT IT READS IS OF BULK AT MOST 1048576: true; the input reads as it did. -/
def surdTwoUptoRow : OpenClaim := { program := "ytfgilibcekfibaa", sum := "e3c776775a1cb9c23e4d6b6550e56adbd0f468076e0d75eafecb87879746c604", func := "tocsin/tocsinlaw2.SurdTwo", spec := "surdTwo", apart := false, narrowed := true }
def SurdTwoUptoSaid : Prop := surdTwoUptoRow.holds Try.pinned (OpenSpec.upto surdTwoSpec)

/-- 'tocsinlaw2.SurdCompared', WHERE WHAT IT READS IS OF BULK AT MOST 1048576: true; the input reads as it did. -/
def surdComparedUptoRow : OpenClaim := { program := "ytfgilibcekfibaa", sum := "e3c776775a1cb9c23e4d6b6550e56adbd0f468076e0d75eafecb87879746c604", func := "tocsin/tocsinlaw2.SurdCompared", spec := "surdCompared", apart := false, narrowed := true }
def SurdComparedUptoSaid : Prop := surdComparedUptoRow.holds Try.pinned (OpenSpec.upto surdComparedSpec)

/-- 'tocsinlaw2.SurdKnown', WHERE WHAT IT READS IS OF BULK AT MOST 1048576: true; the input reads as it did. -/
def surdKnownUptoRow : OpenClaim := { program := "ytfgilibcekfibaa", sum := "e3c776775a1cb9c23e4d6b6550e56adbd0f468076e0d75eafecb87879746c604", func := "tocsin/tocsinlaw2.SurdKnown", spec := "surdKnown", apart := false, narrowed := true }
def SurdKnownUptoSaid : Prop := surdKnownUptoRow.holds Try.pinned (OpenSpec.upto surdKnownSpec)

/-- 'tocsinlaw2.SurdSays', WHERE WHAT IT READS IS OF BULK AT MOST 1048576: true; the input reads as it did. -/
def surdSaysUptoRow : OpenClaim := { program := "ytfgilibcekfibaa", sum := "e3c776775a1cb9c23e4d6b6550e56adbd0f468076e0d75eafecb87879746c604", func := "tocsin/tocsinlaw2.SurdSays", spec := "surdSays", apart := false, narrowed := true }
def SurdSaysUptoSaid : Prop := surdSaysUptoRow.holds Try.pinned (OpenSpec.upto surdSaysSpec)

end Rows
end Go.Proofs.Ytfgilibcekfibaa
