/-
  No cell of these rows narrows 'for every input' (looked for: loops, veiled, ifaces, maps, wideKeys, modest, calm, conditions, laid).
  DERIVED. THE GIVEN ROWS OF THIS SEAT. 6 by the template 'for every input the law returns true; each argument reads behind the call as it read before'; 0 by the template 'total and deterministic' (their statements: YtdpeedkmgegmnaaTotals.lean).
  GIVEN WITH THE SEED: the statements are not yours to turn. If you find one false, say at which input.
  Laid BY PROGRAM, IN A SANDBOX (cutbox-rows.mjs): the forced cells as the released guide's own fill.sh prints them over the translation 33d6a3e87cb344af… (all of the seat's roots in one cut). By AI agents, Wed Nov 11 2026. No macro, syntax, notation, axiom, sorry.
-/
import Derived.Test.YtdpeedkmgegmnaaChecked
import GoSem.Claim
import GoSem.ClaimJoined
import GoSem.ClaimMapViews
import Derived.JoinedTies
import Derived.KernelRfl
namespace Go.Proofs.Ytdpeedkmgegmnaa
/- THE CELL 'sum', in the pinned program and in every row, IS THE sha256 OF THE DUMP (.gsa) THAT YtdpeedkmgegmnaaProg.lean LOADS. Nothing in Lean hashes anything: it is a label: what it is worth is what the hold of that sum in a sandbox is worth. -/
noncomputable def Try.pinned : Pinned := { name := "ytdpeedkmgegmnaa", sum := "33d6a3e87cb344afb12e6c881c5502d8d7f60f5dd0cf36f8c189583329cd6d0f", checked := Try.checked }
namespace Rows
def none {H : Type} : Left H := { results := [], args := [] }

/-- 'tocsinlaw13.ElasticHolds': WHATEVER THE INPUT: true; the input reads as it did. -/
def elasticHoldsSpec : ChangeSpec := { name := "elasticHolds", fn := fun _ => fun
  | [d1, d2] => { results := [.lit (.bool true)], args := [d1, d2] }
  | _ => none }
def elasticHoldsRow : OpenClaim := { program := "ytdpeedkmgegmnaa", sum := "33d6a3e87cb344afb12e6c881c5502d8d7f60f5dd0cf36f8c189583329cd6d0f", func := "tocsin/tocsinlaw13.ElasticHolds", spec := "elasticHolds", unfollowed := true, recurses := true, named := ["math/bits.divideError", "math/bits.overflowError"], apart := false }
def ElasticHoldsSaid : Prop := elasticHoldsRow.holds Try.pinned (OpenSpec.ofChange elasticHoldsSpec)

/-- ITS FALSE NEIGHBOUR: 'it returns false'. Refute it at one input. -/
def elasticHoldsWrong : ChangeSpec := { name := "elasticHolds", fn := fun _ => fun
  | [d1, d2] => { results := [.lit (.bool false)], args := [d1, d2] }
  | _ => none }
def ElasticHoldsWrongFalsely : Prop := elasticHoldsRow.holds Try.pinned (OpenSpec.ofChange elasticHoldsWrong)

/-- 'tocsinlaw13.ElasticBest': WHATEVER THE INPUT: true; the input reads as it did. -/
def elasticBestSpec : ChangeSpec := { name := "elasticBest", fn := fun _ => fun
  | [d1, d2, d3, d4, d5] => { results := [.lit (.bool true)], args := [d1, d2, d3, d4, d5] }
  | _ => none }
def elasticBestRow : OpenClaim := { program := "ytdpeedkmgegmnaa", sum := "33d6a3e87cb344afb12e6c881c5502d8d7f60f5dd0cf36f8c189583329cd6d0f", func := "tocsin/tocsinlaw13.ElasticBest", spec := "elasticBest", unfollowed := true, recurses := true, named := ["math/bits.divideError", "math/bits.overflowError"], apart := false }
def ElasticBestSaid : Prop := elasticBestRow.holds Try.pinned (OpenSpec.ofChange elasticBestSpec)

/-- ITS FALSE NEIGHBOUR: 'it returns false'. Refute it at one input. -/
def elasticBestWrong : ChangeSpec := { name := "elasticBest", fn := fun _ => fun
  | [d1, d2, d3, d4, d5] => { results := [.lit (.bool false)], args := [d1, d2, d3, d4, d5] }
  | _ => none }
def ElasticBestWrongFalsely : Prop := elasticBestRow.holds Try.pinned (OpenSpec.ofChange elasticBestWrong)

/-- 'tocsinlaw13.ElasticMore': WHATEVER THE INPUT: true; the input reads as it did. -/
def elasticMoreSpec : ChangeSpec := { name := "elasticMore", fn := fun _ => fun
  | [d1, d2, d3] => { results := [.lit (.bool true)], args := [d1, d2, d3] }
  | _ => none }
def elasticMoreRow : OpenClaim := { program := "ytdpeedkmgegmnaa", sum := "33d6a3e87cb344afb12e6c881c5502d8d7f60f5dd0cf36f8c189583329cd6d0f", func := "tocsin/tocsinlaw13.ElasticMore", spec := "elasticMore", unfollowed := true, recurses := true, named := ["math/bits.divideError", "math/bits.overflowError"], apart := false }
def ElasticMoreSaid : Prop := elasticMoreRow.holds Try.pinned (OpenSpec.ofChange elasticMoreSpec)

/-- ITS FALSE NEIGHBOUR: 'it returns false'. Refute it at one input. -/
def elasticMoreWrong : ChangeSpec := { name := "elasticMore", fn := fun _ => fun
  | [d1, d2, d3] => { results := [.lit (.bool false)], args := [d1, d2, d3] }
  | _ => none }
def ElasticMoreWrongFalsely : Prop := elasticMoreRow.holds Try.pinned (OpenSpec.ofChange elasticMoreWrong)

/-- 'tocsinlaw13.ElasticFloor': WHATEVER THE INPUT: true; the input reads as it did. -/
def elasticFloorSpec : ChangeSpec := { name := "elasticFloor", fn := fun _ => fun
  | [d1, d2] => { results := [.lit (.bool true)], args := [d1, d2] }
  | _ => none }
def elasticFloorRow : OpenClaim := { program := "ytdpeedkmgegmnaa", sum := "33d6a3e87cb344afb12e6c881c5502d8d7f60f5dd0cf36f8c189583329cd6d0f", func := "tocsin/tocsinlaw13.ElasticFloor", spec := "elasticFloor", unfollowed := true, recurses := true, named := ["math/bits.divideError", "math/bits.overflowError"], apart := false }
def ElasticFloorSaid : Prop := elasticFloorRow.holds Try.pinned (OpenSpec.ofChange elasticFloorSpec)

/-- ITS FALSE NEIGHBOUR: 'it returns false'. Refute it at one input. -/
def elasticFloorWrong : ChangeSpec := { name := "elasticFloor", fn := fun _ => fun
  | [d1, d2] => { results := [.lit (.bool false)], args := [d1, d2] }
  | _ => none }
def ElasticFloorWrongFalsely : Prop := elasticFloorRow.holds Try.pinned (OpenSpec.ofChange elasticFloorWrong)

/-- 'tocsinlaw13.ElasticKnown': WHATEVER THE INPUT: true; the input reads as it did. -/
def elasticKnownSpec : ChangeSpec := { name := "elasticKnown", fn := fun _ => fun
  | [] => { results := [.lit (.bool true)], args := [] }
  | _ => none }
def elasticKnownRow : OpenClaim := { program := "ytdpeedkmgegmnaa", sum := "33d6a3e87cb344afb12e6c881c5502d8d7f60f5dd0cf36f8c189583329cd6d0f", func := "tocsin/tocsinlaw13.ElasticKnown", spec := "elasticKnown", unfollowed := true, recurses := true, named := ["math/bits.divideError", "math/bits.overflowError"], apart := false }
def ElasticKnownSaid : Prop := elasticKnownRow.holds Try.pinned (OpenSpec.ofChange elasticKnownSpec)

/-- ITS FALSE NEIGHBOUR: 'it returns false'. Refute it at one input. -/
def elasticKnownWrong : ChangeSpec := { name := "elasticKnown", fn := fun _ => fun
  | [] => { results := [.lit (.bool false)], args := [] }
  | _ => none }
def ElasticKnownWrongFalsely : Prop := elasticKnownRow.holds Try.pinned (OpenSpec.ofChange elasticKnownWrong)

/-- 'tocsinlaw13.ElasticSays': WHATEVER THE INPUT: true; the input reads as it did. -/
def elasticSaysSpec : ChangeSpec := { name := "elasticSays", fn := fun _ => fun
  | [d1, d2, d3] => { results := [.lit (.bool true)], args := [d1, d2, d3] }
  | _ => none }
def elasticSaysRow : OpenClaim := { program := "ytdpeedkmgegmnaa", sum := "33d6a3e87cb344afb12e6c881c5502d8d7f60f5dd0cf36f8c189583329cd6d0f", func := "tocsin/tocsinlaw13.ElasticSays", spec := "elasticSays", unfollowed := true, recurses := true, named := ["math/bits.divideError", "math/bits.overflowError"], apart := false }
def ElasticSaysSaid : Prop := elasticSaysRow.holds Try.pinned (OpenSpec.ofChange elasticSaysSpec)

/-- ITS FALSE NEIGHBOUR: 'it returns false'. Refute it at one input. -/
def elasticSaysWrong : ChangeSpec := { name := "elasticSays", fn := fun _ => fun
  | [d1, d2, d3] => { results := [.lit (.bool false)], args := [d1, d2, d3] }
  | _ => none }
def ElasticSaysWrongFalsely : Prop := elasticSaysRow.holds Try.pinned (OpenSpec.ofChange elasticSaysWrong)

/- THE SECOND FORM. 'bulk': how many values and letters a reading holds, each counted each time it is reached (what is shared counts as often as it is met; a slice's spare places count too). A statement '..UptoSaid' is the law's where the arguments, and the package variables that the reading takes, are together of bulk at most 1048576: NARROWER than '..Said'. Prove '..Said' where nothing that the law and all that it calls make is longer than what came in: it says more and counts as full. Else prove '..UptoSaid'. A law counts once. -/
mutual
def uptoBulk {H : Type} : DataW H → Nat
  | .lit (.string bytes) => bytes.length + 1
  | .lit _ => 1
  | .nil => 1
  | .ptr d => uptoBulk d + 1
  | .slice elems spare => uptoBulkAll elems + uptoBulkAll spare + 1
  | .agg parts => uptoBulkAll parts + 1
  | .iface _ d => uptoBulk d + 1
  | .map entries => uptoBulkEntries entries + 1
  | .held _ => 1
def uptoBulkAll {H : Type} : List (DataW H) → Nat
  | [] => 0
  | d :: r => uptoBulk d + uptoBulkAll r
def uptoBulkEntries {H : Type} : List (Lit × DataW H) → Nat
  | [] => 0
  | x :: r => uptoBulkEntry x + uptoBulkEntries r
def uptoBulkEntry {H : Type} : Lit × DataW H → Nat
  | (.string bytes, d) => bytes.length + uptoBulk d + 1
  | (_, d) => uptoBulk d + 1
 end
def uptoSmall : (H : Type) → List (DataW H) → Bool := fun _ ds => decide (uptoBulkAll ds ≤ 1048576)
def OpenSpec.upto (s : _root_.Go.ChangeSpec) : _root_.Go.OpenSpec := { _root_.Go.OpenSpec.ofChange s with cond := some uptoSmall }

/-- 'tocsinlaw13.ElasticHolds', WHERE WHAT IT READS IS OF BULK AT MOST 1048576: true; the input reads as it did. -/
def elasticHoldsUptoRow : OpenClaim := { program := "ytdpeedkmgegmnaa", sum := "33d6a3e87cb344afb12e6c881c5502d8d7f60f5dd0cf36f8c189583329cd6d0f", func := "tocsin/tocsinlaw13.ElasticHolds", spec := "elasticHolds", unfollowed := true, recurses := true, named := ["math/bits.divideError", "math/bits.overflowError"], apart := false, narrowed := true }
def ElasticHoldsUptoSaid : Prop := elasticHoldsUptoRow.holds Try.pinned (OpenSpec.upto elasticHoldsSpec)

/-- 'tocsinlaw13.ElasticBest', WHERE WHAT IT READS IS OF BULK AT MOST 1048576: true; the input reads as it did. -/
def elasticBestUptoRow : OpenClaim := { program := "ytdpeedkmgegmnaa", sum := "33d6a3e87cb344afb12e6c881c5502d8d7f60f5dd0cf36f8c189583329cd6d0f", func := "tocsin/tocsinlaw13.ElasticBest", spec := "elasticBest", unfollowed := true, recurses := true, named := ["math/bits.divideError", "math/bits.overflowError"], apart := false, narrowed := true }
def ElasticBestUptoSaid : Prop := elasticBestUptoRow.holds Try.pinned (OpenSpec.upto elasticBestSpec)

/-- 'tocsinlaw13.ElasticMore', WHERE WHAT IT READS IS OF BULK AT MOST 1048576: true; the input reads as it did. -/
def elasticMoreUptoRow : OpenClaim := { program := "ytdpeedkmgegmnaa", sum := "33d6a3e87cb344afb12e6c881c5502d8d7f60f5dd0cf36f8c189583329cd6d0f", func := "tocsin/tocsinlaw13.ElasticMore", spec := "elasticMore", unfollowed := true, recurses := true, named := ["math/bits.divideError", "math/bits.overflowError"], apart := false, narrowed := true }
def ElasticMoreUptoSaid : Prop := elasticMoreUptoRow.holds Try.pinned (OpenSpec.upto elasticMoreSpec)

/-- 'tocsinlaw13.ElasticFloor', WHERE WHAT IT READS IS OF BULK AT MOST 1048576: true; the input reads as it did. -/
def elasticFloorUptoRow : OpenClaim := { program := "ytdpeedkmgegmnaa", sum := "33d6a3e87cb344afb12e6c881c5502d8d7f60f5dd0cf36f8c189583329cd6d0f", func := "tocsin/tocsinlaw13.ElasticFloor", spec := "elasticFloor", unfollowed := true, recurses := true, named := ["math/bits.divideError", "math/bits.overflowError"], apart := false, narrowed := true }
def ElasticFloorUptoSaid : Prop := elasticFloorUptoRow.holds Try.pinned (OpenSpec.upto elasticFloorSpec)

/-- 'tocsinlaw13.ElasticKnown', WHERE WHAT IT READS IS OF BULK AT MOST 1048576: true; the input reads as it did. -/
def elasticKnownUptoRow : OpenClaim := { program := "ytdpeedkmgegmnaa", sum := "33d6a3e87cb344afb12e6c881c5502d8d7f60f5dd0cf36f8c189583329cd6d0f", func := "tocsin/tocsinlaw13.ElasticKnown", spec := "elasticKnown", unfollowed := true, recurses := true, named := ["math/bits.divideError", "math/bits.overflowError"], apart := false, narrowed := true }
def ElasticKnownUptoSaid : Prop := elasticKnownUptoRow.holds Try.pinned (OpenSpec.upto elasticKnownSpec)

/-- 'tocsinlaw13.ElasticSays', WHERE WHAT IT READS IS OF BULK AT MOST 1048576: true; the input reads as it did. -/
def elasticSaysUptoRow : OpenClaim := { program := "ytdpeedkmgegmnaa", sum := "33d6a3e87cb344afb12e6c881c5502d8d7f60f5dd0cf36f8c189583329cd6d0f", func := "tocsin/tocsinlaw13.ElasticSays", spec := "elasticSays", unfollowed := true, recurses := true, named := ["math/bits.divideError", "math/bits.overflowError"], apart := false, narrowed := true }
def ElasticSaysUptoSaid : Prop := elasticSaysUptoRow.holds Try.pinned (OpenSpec.upto elasticSaysSpec)

end Rows
end Go.Proofs.Ytdpeedkmgegmnaa
