/-
  No cell of these rows narrows 'for every input' (looked for: loops, veiled, ifaces, maps, wideKeys, modest, calm, conditions, laid).
  DERIVED. THE GIVEN ROWS OF THIS SEAT. 6 by the template 'for every input the law returns true; each argument reads behind the call as it read before'; 0 by the template 'total and deterministic' (their statements: YtkjboaepeecinaaTotals.lean).
  GIVEN WITH THE SEED: the statements are not yours to turn. If you find one false, say at which input.
  Laid BY PROGRAM, IN A SANDBOX (cutbox-rows.mjs): the forced cells as the released guide's own fill.sh prints them over the translation db332edc540c1124… (all of the seat's roots in one cut). By AI agents, Wed Nov 11 2026. No macro, syntax, notation, axiom, sorry.
-/
import Derived.Test.YtkjboaepeecinaaChecked
import GoSem.Claim
import GoSem.ClaimJoined
import GoSem.ClaimMapViews
import Derived.JoinedTies
import Derived.KernelRfl
namespace Go.Proofs.Ytkjboaepeecinaa
/- THE CELL 'sum', in the pinned program and in every row, IS THE sha256 OF THE DUMP (.gsa) THAT YtkjboaepeecinaaProg.lean LOADS. Nothing in Lean hashes anything: it is a label: what it is worth is what the hold of that sum in a sandbox is worth. -/
noncomputable def Try.pinned : Pinned := { name := "ytkjboaepeecinaa", sum := "db332edc540c1124c207537edd19cf72aba70a95ddd51e4256251b88b8af9e52", checked := Try.checked }
namespace Rows
def none {H : Type} : Left H := { results := [], args := [] }

/-- 'tocsinlaw21.SkipBlue': WHATEVER THE INPUT: true; the input reads as it did. -/
def skipBlueSpec : ChangeSpec := { name := "skipBlue", fn := fun _ => fun
  | [d1, d2] => { results := [.lit (.bool true)], args := [d1, d2] }
  | _ => none }
def skipBlueRow : OpenClaim := { program := "ytkjboaepeecinaa", sum := "db332edc540c1124c207537edd19cf72aba70a95ddd51e4256251b88b8af9e52", func := "tocsin/tocsinlaw21.SkipBlue", spec := "skipBlue", unfollowed := true, recurses := true, apart := false }
def SkipBlueSaid : Prop := skipBlueRow.holds Try.pinned (OpenSpec.ofChange skipBlueSpec)

/-- ITS FALSE NEIGHBOUR: 'it returns false'. Refute it at one input. -/
def skipBlueWrong : ChangeSpec := { name := "skipBlue", fn := fun _ => fun
  | [d1, d2] => { results := [.lit (.bool false)], args := [d1, d2] }
  | _ => none }
def SkipBlueWrongFalsely : Prop := skipBlueRow.holds Try.pinned (OpenSpec.ofChange skipBlueWrong)

/-- 'tocsinlaw21.SkipPlain': WHATEVER THE INPUT: true; the input reads as it did. -/
def skipPlainSpec : ChangeSpec := { name := "skipPlain", fn := fun _ => fun
  | [d1, d2] => { results := [.lit (.bool true)], args := [d1, d2] }
  | _ => none }
def skipPlainRow : OpenClaim := { program := "ytkjboaepeecinaa", sum := "db332edc540c1124c207537edd19cf72aba70a95ddd51e4256251b88b8af9e52", func := "tocsin/tocsinlaw21.SkipPlain", spec := "skipPlain", unfollowed := true, recurses := true, apart := false }
def SkipPlainSaid : Prop := skipPlainRow.holds Try.pinned (OpenSpec.ofChange skipPlainSpec)

/-- ITS FALSE NEIGHBOUR: 'it returns false'. Refute it at one input. -/
def skipPlainWrong : ChangeSpec := { name := "skipPlain", fn := fun _ => fun
  | [d1, d2] => { results := [.lit (.bool false)], args := [d1, d2] }
  | _ => none }
def SkipPlainWrongFalsely : Prop := skipPlainRow.holds Try.pinned (OpenSpec.ofChange skipPlainWrong)

/-- 'tocsinlaw21.SkipCuts': WHATEVER THE INPUT: true; the input reads as it did. -/
def skipCutsSpec : ChangeSpec := { name := "skipCuts", fn := fun _ => fun
  | [d1, d2, d3, d4] => { results := [.lit (.bool true)], args := [d1, d2, d3, d4] }
  | _ => none }
def skipCutsRow : OpenClaim := { program := "ytkjboaepeecinaa", sum := "db332edc540c1124c207537edd19cf72aba70a95ddd51e4256251b88b8af9e52", func := "tocsin/tocsinlaw21.SkipCuts", spec := "skipCuts", unfollowed := true, recurses := true, apart := false }
def SkipCutsSaid : Prop := skipCutsRow.holds Try.pinned (OpenSpec.ofChange skipCutsSpec)

/-- ITS FALSE NEIGHBOUR: 'it returns false'. Refute it at one input. -/
def skipCutsWrong : ChangeSpec := { name := "skipCuts", fn := fun _ => fun
  | [d1, d2, d3, d4] => { results := [.lit (.bool false)], args := [d1, d2, d3, d4] }
  | _ => none }
def SkipCutsWrongFalsely : Prop := skipCutsRow.holds Try.pinned (OpenSpec.ofChange skipCutsWrong)

/-- 'tocsinlaw21.SkipKnown': WHATEVER THE INPUT: true; the input reads as it did. -/
def skipKnownSpec : ChangeSpec := { name := "skipKnown", fn := fun _ => fun
  | [] => { results := [.lit (.bool true)], args := [] }
  | _ => none }
def skipKnownRow : OpenClaim := { program := "ytkjboaepeecinaa", sum := "db332edc540c1124c207537edd19cf72aba70a95ddd51e4256251b88b8af9e52", func := "tocsin/tocsinlaw21.SkipKnown", spec := "skipKnown", unfollowed := true, recurses := true, apart := false }
def SkipKnownSaid : Prop := skipKnownRow.holds Try.pinned (OpenSpec.ofChange skipKnownSpec)

/-- ITS FALSE NEIGHBOUR: 'it returns false'. Refute it at one input. -/
def skipKnownWrong : ChangeSpec := { name := "skipKnown", fn := fun _ => fun
  | [] => { results := [.lit (.bool false)], args := [] }
  | _ => none }
def SkipKnownWrongFalsely : Prop := skipKnownRow.holds Try.pinned (OpenSpec.ofChange skipKnownWrong)

/-- 'tocsinlaw21.SkipRuns': WHATEVER THE INPUT: true; the input reads as it did. -/
def skipRunsSpec : ChangeSpec := { name := "skipRuns", fn := fun _ => fun
  | [d1, d2, d3, d4, d5] => { results := [.lit (.bool true)], args := [d1, d2, d3, d4, d5] }
  | _ => none }
def skipRunsRow : OpenClaim := { program := "ytkjboaepeecinaa", sum := "db332edc540c1124c207537edd19cf72aba70a95ddd51e4256251b88b8af9e52", func := "tocsin/tocsinlaw21.SkipRuns", spec := "skipRuns", unfollowed := true, recurses := true, apart := false }
def SkipRunsSaid : Prop := skipRunsRow.holds Try.pinned (OpenSpec.ofChange skipRunsSpec)

/-- ITS FALSE NEIGHBOUR: 'it returns false'. Refute it at one input. -/
def skipRunsWrong : ChangeSpec := { name := "skipRuns", fn := fun _ => fun
  | [d1, d2, d3, d4, d5] => { results := [.lit (.bool false)], args := [d1, d2, d3, d4, d5] }
  | _ => none }
def SkipRunsWrongFalsely : Prop := skipRunsRow.holds Try.pinned (OpenSpec.ofChange skipRunsWrong)

/-- 'tocsinlaw21.SkipReds': WHATEVER THE INPUT: true; the input reads as it did. -/
def skipRedsSpec : ChangeSpec := { name := "skipReds", fn := fun _ => fun
  | [d1, d2, d3] => { results := [.lit (.bool true)], args := [d1, d2, d3] }
  | _ => none }
def skipRedsRow : OpenClaim := { program := "ytkjboaepeecinaa", sum := "db332edc540c1124c207537edd19cf72aba70a95ddd51e4256251b88b8af9e52", func := "tocsin/tocsinlaw21.SkipReds", spec := "skipReds", unfollowed := true, recurses := true, apart := false }
def SkipRedsSaid : Prop := skipRedsRow.holds Try.pinned (OpenSpec.ofChange skipRedsSpec)

/-- ITS FALSE NEIGHBOUR: 'it returns false'. Refute it at one input. -/
def skipRedsWrong : ChangeSpec := { name := "skipReds", fn := fun _ => fun
  | [d1, d2, d3] => { results := [.lit (.bool false)], args := [d1, d2, d3] }
  | _ => none }
def SkipRedsWrongFalsely : Prop := skipRedsRow.holds Try.pinned (OpenSpec.ofChange skipRedsWrong)

/- THE SECOND FORM. 'bulk': how many values and letters a reading holds, each counted each time it is reached (what is shared counts as often as it is met; a slice's spare places count too). A statement '..UptoSaid' is the law's where the arguments, and the package variables that the reading takes, are together of bulk at most 1048576: NARROWER than '..Said'. Prove '..Said' where nothing that the law and all that it calls make is longer than what came in: it says more and counts as full. Else prove '..UptoSaid'. A law counts once. -/
mutual
def uptoBulk {H : Type} : DataW H → Nat
  | .lit (.string bytes) => bytes.length + 1
  | .lit _ => 1
  | .nil => 1
  | .ptr d => uptoBulk d + 1
  | .slice elems spare => uptoBulkAll elems + uptoBulkAll spare + 1
  | .agg parts => uptoBulkAll parts + 1
  | .iface _ d => uptoBulk d + 1
  | .map entries => uptoBulkEntries entries + 1
  | .held _ => 1
def uptoBulkAll {H : Type} : List (DataW H) → Nat
  | [] => 0
  | d :: r => uptoBulk d + uptoBulkAll r
def uptoBulkEntries {H : Type} : List (Lit × DataW H) → Nat
  | [] => 0
  | x :: r => uptoBulkEntry x + uptoBulkEntries r
def uptoBulkEntry {H : Type} : Lit × DataW H → Nat
  | (.string bytes, d) => bytes.length + uptoBulk d + 1
  | (_, d) => uptoBulk d + 1
 end
def uptoSmall : (H : Type) → List (DataW H) → Bool := fun _ ds => decide (uptoBulkAll ds ≤ 1048576)
def OpenSpec.upto (s : _root_.Go.ChangeSpec) : _root_.Go.OpenSpec := { _root_.Go.OpenSpec.ofChange s with cond := some uptoSmall }

/-- 'tocsinlaw21.SkipBlue', WHERE WHAT IT READS IS OF BULK AT MOST 1048576: true; the input reads as it did. -/
def skipBlueUptoRow : OpenClaim := { program := "ytkjboaepeecinaa", sum := "db332edc540c1124c207537edd19cf72aba70a95ddd51e4256251b88b8af9e52", func := "tocsin/tocsinlaw21.SkipBlue", spec := "skipBlue", unfollowed := true, recurses := true, apart := false, narrowed := true }
def SkipBlueUptoSaid : Prop := skipBlueUptoRow.holds Try.pinned (OpenSpec.upto skipBlueSpec)

/-- 'tocsinlaw21.SkipPlain', WHERE WHAT IT READS IS OF BULK AT MOST 1048576: true; the input reads as it did. -/
def skipPlainUptoRow : OpenClaim := { program := "ytkjboaepeecinaa", sum := "db332edc540c1124c207537edd19cf72aba70a95ddd51e4256251b88b8af9e52", func := "tocsin/tocsinlaw21.SkipPlain", spec := "skipPlain", unfollowed := true, recurses := true, apart := false, narrowed := true }
def SkipPlainUptoSaid : Prop := skipPlainUptoRow.holds Try.pinned (OpenSpec.upto skipPlainSpec)

/-- 'tocsinlaw21.SkipCuts', WHERE WHAT IT READS IS OF BULK AT MOST 1048576: true; the input reads as it did. -/
def skipCutsUptoRow : OpenClaim := { program := "ytkjboaepeecinaa", sum := "db332edc540c1124c207537edd19cf72aba70a95ddd51e4256251b88b8af9e52", func := "tocsin/tocsinlaw21.SkipCuts", spec := "skipCuts", unfollowed := true, recurses := true, apart := false, narrowed := true }
def SkipCutsUptoSaid : Prop := skipCutsUptoRow.holds Try.pinned (OpenSpec.upto skipCutsSpec)

/-- 'tocsinlaw21.SkipKnown', WHERE WHAT IT READS IS OF BULK AT MOST 1048576: true; the input reads as it did. -/
def skipKnownUptoRow : OpenClaim := { program := "ytkjboaepeecinaa", sum := "db332edc540c1124c207537edd19cf72aba70a95ddd51e4256251b88b8af9e52", func := "tocsin/tocsinlaw21.SkipKnown", spec := "skipKnown", unfollowed := true, recurses := true, apart := false, narrowed := true }
def SkipKnownUptoSaid : Prop := skipKnownUptoRow.holds Try.pinned (OpenSpec.upto skipKnownSpec)

/-- 'tocsinlaw21.SkipRuns', WHERE WHAT IT READS IS OF BULK AT MOST 1048576: true; the input reads as it did. -/
def skipRunsUptoRow : OpenClaim := { program := "ytkjboaepeecinaa", sum := "db332edc540c1124c207537edd19cf72aba70a95ddd51e4256251b88b8af9e52", func := "tocsin/tocsinlaw21.SkipRuns", spec := "skipRuns", unfollowed := true, recurses := true, apart := false, narrowed := true }
def SkipRunsUptoSaid : Prop := skipRunsUptoRow.holds Try.pinned (OpenSpec.upto skipRunsSpec)

/-- 'tocsinlaw21.SkipReds', WHERE WHAT IT READS IS OF BULK AT MOST 1048576: true; the input reads as it did. -/
def skipRedsUptoRow : OpenClaim := { program := "ytkjboaepeecinaa", sum := "db332edc540c1124c207537edd19cf72aba70a95ddd51e4256251b88b8af9e52", func := "tocsin/tocsinlaw21.SkipReds", spec := "skipReds", unfollowed := true, recurses := true, apart := false, narrowed := true }
def SkipRedsUptoSaid : Prop := skipRedsUptoRow.holds Try.pinned (OpenSpec.upto skipRedsSpec)

end Rows
end Go.Proofs.Ytkjboaepeecinaa
