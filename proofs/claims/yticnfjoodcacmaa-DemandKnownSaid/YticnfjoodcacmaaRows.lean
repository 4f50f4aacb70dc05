/-
  No cell of these rows narrows 'for every input' (looked for: loops, veiled, ifaces, maps, wideKeys, modest, calm, conditions, laid).
  DERIVED. THE GIVEN ROWS OF THIS SEAT. 4 by the template 'for every input the law returns true; each argument reads behind the call as it read before'; 0 by the template 'total and deterministic' (their statements: YticnfjoodcacmaaTotals.lean).
  GIVEN WITH THE SEED: the statements are not yours to turn. If you find one false, say at which input.
  Laid BY PROGRAM, IN A SANDBOX (cutbox-rows.mjs): the forced cells as the released guide's own fill.sh prints them over the translation f6782badbd823efe… (all of the seat's roots in one cut). By AI agents, Wed Nov 11 2026. No macro, syntax, notation, axiom, sorry.
-/
import Derived.Test.YticnfjoodcacmaaChecked
import GoSem.Claim
import GoSem.ClaimJoined
import GoSem.ClaimMapViews
import Derived.JoinedTies
import Derived.KernelRfl
namespace Go.Proofs.Yticnfjoodcacmaa
/- THE CELL 'sum', in the pinned program and in every row, IS THE sha256 OF THE DUMP (.gsa) THAT YticnfjoodcacmaaProg.lean LOADS. Nothing in Lean hashes anything: it is a label: what it is worth is what the hold of that sum in a sandbox is worth. -/
noncomputable def Try.pinned : Pinned := { name := "yticnfjoodcacmaa", sum := "f6782badbd823efef4d102be833b62622b5be6f597ac275c5f550ffd5ffedc78", checked := Try.checked }
namespace Rows
def none {H : Type} : Left H := { results := [], args := [] }

/-- 'tocsinlaw11.DemandKnown': WHATEVER THE INPUT: true; the input reads as it did. -/
def demandKnownSpec : ChangeSpec := { name := "demandKnown", fn := fun _ => fun
  | [] => { results := [.lit (.bool true)], args := [] }
  | _ => none }
def demandKnownRow : OpenClaim := { program := "yticnfjoodcacmaa", sum := "f6782badbd823efef4d102be833b62622b5be6f597ac275c5f550ffd5ffedc78", func := "tocsin/tocsinlaw11.DemandKnown", spec := "demandKnown", unfollowed := true, recurses := true, apart := false }
def DemandKnownSaid : Prop := demandKnownRow.holds Try.pinned (OpenSpec.ofChange demandKnownSpec)

/-- ITS FALSE NEIGHBOUR: 'it returns false'. Refute it at one input. -/
def demandKnownWrong : ChangeSpec := { name := "demandKnown", fn := fun _ => fun
  | [] => { results := [.lit (.bool false)], args := [] }
  | _ => none }
def DemandKnownWrongFalsely : Prop := demandKnownRow.holds Try.pinned (OpenSpec.ofChange demandKnownWrong)

/-- 'tocsinlaw11.DemandSays': WHATEVER THE INPUT: true; the input reads as it did. -/
def demandSaysSpec : ChangeSpec := { name := "demandSays", fn := fun _ => fun
  | [d1, d2] => { results := [.lit (.bool true)], args := [d1, d2] }
  | _ => none }
def demandSaysRow : OpenClaim := { program := "yticnfjoodcacmaa", sum := "f6782badbd823efef4d102be833b62622b5be6f597ac275c5f550ffd5ffedc78", func := "tocsin/tocsinlaw11.DemandSays", spec := "demandSays", unfollowed := true, recurses := true, apart := false }
def DemandSaysSaid : Prop := demandSaysRow.holds Try.pinned (OpenSpec.ofChange demandSaysSpec)

/-- ITS FALSE NEIGHBOUR: 'it returns false'. Refute it at one input. -/
def demandSaysWrong : ChangeSpec := { name := "demandSays", fn := fun _ => fun
  | [d1, d2] => { results := [.lit (.bool false)], args := [d1, d2] }
  | _ => none }
def DemandSaysWrongFalsely : Prop := demandSaysRow.holds Try.pinned (OpenSpec.ofChange demandSaysWrong)

/-- 'tocsinlaw11.DemandFrames': WHATEVER THE INPUT: true; the input reads as it did. -/
def demandFramesSpec : ChangeSpec := { name := "demandFrames", fn := fun _ => fun
  | [d1, d2, d3] => { results := [.lit (.bool true)], args := [d1, d2, d3] }
  | _ => none }
def demandFramesRow : OpenClaim := { program := "yticnfjoodcacmaa", sum := "f6782badbd823efef4d102be833b62622b5be6f597ac275c5f550ffd5ffedc78", func := "tocsin/tocsinlaw11.DemandFrames", spec := "demandFrames", unfollowed := true, recurses := true, apart := false }
def DemandFramesSaid : Prop := demandFramesRow.holds Try.pinned (OpenSpec.ofChange demandFramesSpec)

/-- ITS FALSE NEIGHBOUR: 'it returns false'. Refute it at one input. -/
def demandFramesWrong : ChangeSpec := { name := "demandFrames", fn := fun _ => fun
  | [d1, d2, d3] => { results := [.lit (.bool false)], args := [d1, d2, d3] }
  | _ => none }
def DemandFramesWrongFalsely : Prop := demandFramesRow.holds Try.pinned (OpenSpec.ofChange demandFramesWrong)

/-- 'tocsinlaw11.DemandOne': WHATEVER THE INPUT: true; the input reads as it did. -/
def demandOneSpec : ChangeSpec := { name := "demandOne", fn := fun _ => fun
  | [d] => { results := [.lit (.bool true)], args := [d] }
  | _ => none }
def demandOneRow : OpenClaim := { program := "yticnfjoodcacmaa", sum := "f6782badbd823efef4d102be833b62622b5be6f597ac275c5f550ffd5ffedc78", func := "tocsin/tocsinlaw11.DemandOne", spec := "demandOne", unfollowed := true, recurses := true, apart := false }
def DemandOneSaid : Prop := demandOneRow.holds Try.pinned (OpenSpec.ofChange demandOneSpec)

/-- ITS FALSE NEIGHBOUR: 'it returns false'. Refute it at one input. -/
def demandOneWrong : ChangeSpec := { name := "demandOne", fn := fun _ => fun
  | [d] => { results := [.lit (.bool false)], args := [d] }
  | _ => none }
def DemandOneWrongFalsely : Prop := demandOneRow.holds Try.pinned (OpenSpec.ofChange demandOneWrong)

/- THE SECOND FORM. 'bulk': how many values and letters a reading holds, each counted each time it is reached (what is shared counts as often as it is met; a slice's spare places count too). A statement '..UptoSaid' is the law's where the arguments, and the package variables that the reading takes, are together of bulk at most 1048576: NARROWER than '..Said'. Prove '..Said' where nothing that the law and all that it calls make is longer than what came in: it says more and counts as full. Else prove '..UptoSaid'. A law counts once. -/
mutual
def uptoBulk {H : Type} : DataW H → Nat
  | .lit (.string bytes) => bytes.length + 1
  | .lit _ => 1
  | .nil => 1
  | .ptr d => uptoBulk d + 1
  | .slice elems spare => uptoBulkAll elems + uptoBulkAll spare + 1
  | .agg parts => uptoBulkAll parts + 1
  | .iface _ d => uptoBulk d + 1
  | .map entries => uptoBulkEntries entries + 1
  | .held _ => 1
def uptoBulkAll {H : Type} : List (DataW H) → Nat
  | [] => 0
  | d :: r => uptoBulk d + uptoBulkAll r
def uptoBulkEntries {H : Type} : List (Lit × DataW H) → Nat
  | [] => 0
  | x :: r => uptoBulkEntry x + uptoBulkEntries r
def uptoBulkEntry {H : Type} : Lit × DataW H → Nat
  | (.string bytes, d) => bytes.length + uptoBulk d + 1
  | (_, d) => uptoBulk d + 1
 end
def uptoSmall : (H : Type) → List (DataW H) → Bool := fun _ ds => decide (uptoBulkAll ds ≤ 1048576)
def OpenSpec.upto (s : _root_.Go.ChangeSpec) : _root_.Go.OpenSpec := { _root_.Go.OpenSpec.ofChange s with cond := some uptoSmall }

/-- 'tocsinlaw11.DemandKnown', WHERE WHAT IT READS IS OF BULK AT MOST 1048576: true; the input reads as it did. -/
def demandKnownUptoRow : OpenClaim := { program := "yticnfjoodcacmaa", sum := "f6782badbd823efef4d102be833b62622b5be6f597ac275c5f550ffd5ffedc78", func := "tocsin/tocsinlaw11.DemandKnown", spec := "demandKnown", unfollowed := true, recurses := true, apart := false, narrowed := true }
def DemandKnownUptoSaid : Prop := demandKnownUptoRow.holds Try.pinned (OpenSpec.upto demandKnownSpec)

/-- 'tocsinlaw11.DemandSays', WHERE WHAT IT READS IS OF BULK AT MOST 1048576: true; the input reads as it did. -/
def demandSaysUptoRow : OpenClaim := { program := "yticnfjoodcacmaa", sum := "f6782badbd823efef4d102be833b62622b5be6f597ac275c5f550ffd5ffedc78", func := "tocsin/tocsinlaw11.DemandSays", spec := "demandSays", unfollowed := true, recurses := true, apart := false, narrowed := true }
def DemandSaysUptoSaid : Prop := demandSaysUptoRow.holds Try.pinned (OpenSpec.upto demandSaysSpec)

/-- 'tocsinlaw11.DemandFrames', WHERE WHAT IT READS IS OF BULK AT MOST 1048576: true; the input reads as it did. -/
def demandFramesUptoRow : OpenClaim := { program := "yticnfjoodcacmaa", sum := "f6782badbd823efef4d102be833b62622b5be6f597ac275c5f550ffd5ffedc78", func := "tocsin/tocsinlaw11.DemandFrames", spec := "demandFrames", unfollowed := true, recurses := true, apart := false, narrowed := true }
def DemandFramesUptoSaid : Prop := demandFramesUptoRow.holds Try.pinned (OpenSpec.upto demandFramesSpec)

/-- 'tocsinlaw11.DemandOne', WHERE WHAT IT READS IS OF BULK AT MOST 1048576: true; the input reads as it did. -/
def demandOneUptoRow : OpenClaim := { program := "yticnfjoodcacmaa", sum := "f6782badbd823efef4d102be833b62622b5be6f597ac275c5f550ffd5ffedc78", func := "tocsin/tocsinlaw11.DemandOne", spec := "demandOne", unfollowed := true, recurses := true, apart := false, narrowed := true }
def DemandOneUptoSaid : Prop := demandOneUptoRow.holds Try.pinned (OpenSpec.upto demandOneSpec)

end Rows
end Go.Proofs.Yticnfjoodcacmaa
