/-
  No cell of these rows narrows 'for every input' (looked for: loops, veiled, ifaces, maps, wideKeys, modest, calm, conditions, laid).
  DERIVED. THE GIVEN ROWS OF THIS SEAT. 3 by the template 'for every input the law returns true; each argument reads behind the call as it read before'; 0 by the template 'total and deterministic' (their statements: YtbfjnlnnjhfamaaTotals.lean).
  GIVEN WITH THE SEED: the statements are not yours to turn. If you find one false, say at which input.
  Laid BY PROGRAM, IN A SANDBOX (cutbox-rows.mjs): the forced cells as the released guide's own fill.sh prints them over the translation feb5d3496ada4166… (all of the seat's roots in one cut). By AI agents, Wed Nov 11 2026. No macro, syntax, notation, axiom, sorry.
-/
import Derived.Test.YtbfjnlnnjhfamaaChecked
import GoSem.Claim
import GoSem.ClaimJoined
import GoSem.ClaimMapViews
import Derived.JoinedTies
import Derived.KernelRfl
namespace Go.Proofs.Ytbfjnlnnjhfamaa
/- THE CELL 'sum', in the pinned program and in every row, IS THE sha256 OF THE DUMP (.gsa) THAT YtbfjnlnnjhfamaaProg.lean LOADS. Nothing in Lean hashes anything: it is a label: what it is worth is what the hold of that sum in a sandbox is worth. -/
noncomputable def Try.pinned : Pinned := { name := "ytbfjnlnnjhfamaa", sum := "feb5d3496ada4166108d3cc7835e54e83f47f77750225c4acc7b30616b879135", checked := Try.checked }
namespace Rows
def none {H : Type} : Left H := { results := [], args := [] }

/-- 'tocsinlaw23.PolicySays': WHATEVER THE INPUT: true; the input reads as it did. -/
def policySaysSpec : ChangeSpec := { name := "policySays", fn := fun _ => fun
  | [d1, d2, d3] => { results := [.lit (.bool true)], args := [d1, d2, d3] }
  | _ => none }
def policySaysRow : OpenClaim := { program := "ytbfjnlnnjhfamaa", sum := "feb5d3496ada4166108d3cc7835e54e83f47f77750225c4acc7b30616b879135", func := "tocsin/tocsinlaw23.PolicySays", spec := "policySays", unfollowed := true, recurses := true, apart := false }
def PolicySaysSaid : Prop := policySaysRow.holds Try.pinned (OpenSpec.ofChange policySaysSpec)

/-- ITS FALSE NEIGHBOUR: 'it returns false'. Refute it at one input. -/
def policySaysWrong : ChangeSpec := { name := "policySays", fn := fun _ => fun
  | [d1, d2, d3] => { results := [.lit (.bool false)], args := [d1, d2, d3] }
  | _ => none }
def PolicySaysWrongFalsely : Prop := policySaysRow.holds Try.pinned (OpenSpec.ofChange policySaysWrong)

/-- 'tocsinlaw23.PolicyKinds': WHATEVER THE INPUT: true; the input reads as it did. -/
def policyKindsSpec : ChangeSpec := { name := "policyKinds", fn := fun _ => fun
  | [d1, d2, d3] => { results := [.lit (.bool true)], args := [d1, d2, d3] }
  | _ => none }
def policyKindsRow : OpenClaim := { program := "ytbfjnlnnjhfamaa", sum := "feb5d3496ada4166108d3cc7835e54e83f47f77750225c4acc7b30616b879135", func := "tocsin/tocsinlaw23.PolicyKinds", spec := "policyKinds", unfollowed := true, recurses := true, apart := false }
def PolicyKindsSaid : Prop := policyKindsRow.holds Try.pinned (OpenSpec.ofChange policyKindsSpec)

/-- ITS FALSE NEIGHBOUR: 'it returns false'. Refute it at one input. -/
def policyKindsWrong : ChangeSpec := { name := "policyKinds", fn := fun _ => fun
  | [d1, d2, d3] => { results := [.lit (.bool false)], args := [d1, d2, d3] }
  | _ => none }
def PolicyKindsWrongFalsely : Prop := policyKindsRow.holds Try.pinned (OpenSpec.ofChange policyKindsWrong)

/-- 'tocsinlaw23.PolicyKnown': WHATEVER THE INPUT: true; the input reads as it did. -/
def policyKnownSpec : ChangeSpec := { name := "policyKnown", fn := fun _ => fun
  | [] => { results := [.lit (.bool true)], args := [] }
  | _ => none }
def policyKnownRow : OpenClaim := { program := "ytbfjnlnnjhfamaa", sum := "feb5d3496ada4166108d3cc7835e54e83f47f77750225c4acc7b30616b879135", func := "tocsin/tocsinlaw23.PolicyKnown", spec := "policyKnown", unfollowed := true, recurses := true, apart := false }
def PolicyKnownSaid : Prop := policyKnownRow.holds Try.pinned (OpenSpec.ofChange policyKnownSpec)

/-- ITS FALSE NEIGHBOUR: 'it returns false'. Refute it at one input. -/
def policyKnownWrong : ChangeSpec := { name := "policyKnown", fn := fun _ => fun
  | [] => { results := [.lit (.bool false)], args := [] }
  | _ => none }
def PolicyKnownWrongFalsely : Prop := policyKnownRow.holds Try.pinned (OpenSpec.ofChange policyKnownWrong)

/- THE SECOND FORM. 'bulk': how many values and letters a reading holds, each counted each time it is reached (what is shared counts as often as it is met; a slice's spare places count too). A statement '..UptoSaid' is the law's where the arguments, and the package variables that the reading takes, are together of bulk at most 1048576: NARROWER than '..Said'. Prove '..Said' where nothing that the law and all that it calls make is longer than what came in: it says more and counts as full. Else prove '..UptoSaid'. A law counts once. -/
mutual
def uptoBulk {H : Type} : DataW H → Nat
  | .lit (.string bytes) => bytes.length + 1
  | .lit _ => 1
  | .nil => 1
  | .ptr d => uptoBulk d + 1
  | .slice elems spare => uptoBulkAll elems + uptoBulkAll spare + 1
  | .agg parts => uptoBulkAll parts + 1
  | .iface _ d => uptoBulk d + 1
  | .map entries => uptoBulkEntries entries + 1
  | .held _ => 1
def uptoBulkAll {H : Type} : List (DataW H) → Nat
  | [] => 0
  | d :: r => uptoBulk d + uptoBulkAll r
def uptoBulkEntries {H : Type} : List (Lit × DataW H) → Nat
  | [] => 0
  | x :: r => uptoBulkEntry x + uptoBulkEntries r
def uptoBulkEntry {H : Type} : Lit × DataW H → Nat
  | (.string bytes, d) => bytes.length + uptoBulk d + 1
  | (_, d) => uptoBulk d + 1
 end
def uptoSmall : (H : Type) → List (DataW H) → Bool := fun _ ds => decide (uptoBulkAll ds ≤ 1048576)
def OpenSpec.upto (s : _root_.Go.ChangeSpec) : _root_.Go.OpenSpec := { _root_.Go.OpenSpec.ofChange s with cond := some uptoSmall }

/-- 'tocsinlaw23.PolicySays', WHERE WHAT IT READS IS OF BULK AT MOST 1048576: true; the input reads as it did. -/
def policySaysUptoRow : OpenClaim := { program := "ytbfjnlnnjhfamaa", sum := "feb5d3496ada4166108d3cc7835e54e83f47f77750225c4acc7b30616b879135", func := "tocsin/tocsinlaw23.PolicySays", spec := "policySays", unfollowed := true, recurses := true, apart := false, narrowed := true }
def PolicySaysUptoSaid : Prop := policySaysUptoRow.holds Try.pinned (OpenSpec.upto policySaysSpec)

/-- 'tocsinlaw23.PolicyKinds', WHERE WHAT IT READS IS OF BULK AT MOST 1048576: true; the input reads as it did. -/
def policyKindsUptoRow : OpenClaim := { program := "ytbfjnlnnjhfamaa", sum := "feb5d3496ada4166108d3cc7835e54e83f47f77750225c4acc7b30616b879135", func := "tocsin/tocsinlaw23.PolicyKinds", spec := "policyKinds", unfollowed := true, recurses := true, apart := false, narrowed := true }
def PolicyKindsUptoSaid : Prop := policyKindsUptoRow.holds Try.pinned (OpenSpec.upto policyKindsSpec)

/-- 'tocsinlaw23.PolicyKnown', WHERE WHAT IT READS IS OF BULK AT MOST 1048576: true; the input reads as it did. -/
def policyKnownUptoRow : OpenClaim := { program := "ytbfjnlnnjhfamaa", sum := "feb5d3496ada4166108d3cc7835e54e83f47f77750225c4acc7b30616b879135", func := "tocsin/tocsinlaw23.PolicyKnown", spec := "policyKnown", unfollowed := true, recurses := true, apart := false, narrowed := true }
def PolicyKnownUptoSaid : Prop := policyKnownUptoRow.holds Try.pinned (OpenSpec.upto policyKnownSpec)

end Rows
end Go.Proofs.Ytbfjnlnnjhfamaa
