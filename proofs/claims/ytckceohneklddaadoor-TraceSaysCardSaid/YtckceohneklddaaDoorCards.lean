/-
  DERIVED. GIVEN WITH THE SEED: THE CARDS: each row of YtckceohneklddaaDoorRows.lean that lists a variable, with what it lists TIED to the program's text (the seventh form; the later family's looks); each row that meets fmt, with fmt's text TOLD by the authors' own Lean function (tested against real Go, not proved from fmt's source: count such statements apart). THE CARD IS WHAT COUNTS. Prove the row's statement (the work); the ties are given (YtckceohneklddaaDoorTie.lean); close each card by the builder's one call (the guide's Derived/Test/ToyasCard.lean, 'card_holds'). Laid BY PROGRAM, IN A SANDBOX (cutbox-door.mjs). By AI agents, Wed Nov 11 2026. No macro, syntax, notation, axiom, sorry.
-/
import Derived.Test.YtckceohneklddaaDoorRows
import GoSem.ClaimSeven
namespace Go.Proofs.YtckceohneklddaaDoor
namespace Rows

/-- THE TIED CARD OF 'tocsinlaw9.TraceCuts'. -/
def traceCutsCard : Claim7 := { stood := { row := traceCutsRow, standIns := [], harness := (true, "eb15ebf70cd3ac39f5b30e27681326ba4c221ded2468ea5483648a7de497c9a9"), looks := false }, kinds := [], alts := [], laidByText := true, laidKinds := [.data, .data, .pinned, .pinned], laidTests := true, laidLooks := .later }
def TraceCutsCardSaid : Prop := Claim7.holds Tryd.pinned (.plain (OpenSpec.ofChange traceCutsSpec)) traceCutsCard

/-- THE TIED CARD OF 'tocsinlaw9.TraceCounts'. -/
def traceCountsCard : Claim7 := { stood := { row := traceCountsRow, standIns := [], harness := (true, "eb15ebf70cd3ac39f5b30e27681326ba4c221ded2468ea5483648a7de497c9a9"), looks := false }, kinds := [], alts := [], laidByText := true, laidKinds := [.data, .data, .pinned, .pinned], laidTests := true, laidLooks := .later }
def TraceCountsCardSaid : Prop := Claim7.holds Tryd.pinned (.plain (OpenSpec.ofChange traceCountsSpec)) traceCountsCard

/-- THE TIED CARD OF 'tocsinlaw9.TraceKnown'. -/
def traceKnownCard : Claim7 := { stood := { row := traceKnownRow, standIns := [], harness := (true, "eb15ebf70cd3ac39f5b30e27681326ba4c221ded2468ea5483648a7de497c9a9"), looks := false }, kinds := [], alts := [], laidByText := true, laidKinds := [.data, .data, .pinned, .pinned], laidTests := true, laidLooks := .later }
def TraceKnownCardSaid : Prop := Claim7.holds Tryd.pinned (.plain (OpenSpec.ofChange traceKnownSpec)) traceKnownCard

/-- THE TIED CARD OF 'tocsinlaw9.TraceSays'. -/
def traceSaysCard : Claim7 := { stood := { row := traceSaysRow, standIns := [], harness := (true, "eb15ebf70cd3ac39f5b30e27681326ba4c221ded2468ea5483648a7de497c9a9"), looks := false }, kinds := [], alts := [], laidByText := true, laidKinds := [.data, .data, .pinned, .pinned], laidTests := true, laidLooks := .later }
def TraceSaysCardSaid : Prop := Claim7.holds Tryd.pinned (.plain (OpenSpec.ofChange traceSaysSpec)) traceSaysCard

/-- THE SECOND FORM's CARD OF 'tocsinlaw9.TraceCuts'. -/
def traceCutsUptoCard : Claim7 := { stood := { row := traceCutsUptoRow, standIns := [], harness := (true, "eb15ebf70cd3ac39f5b30e27681326ba4c221ded2468ea5483648a7de497c9a9"), looks := false }, kinds := [], alts := [], laidByText := true, laidKinds := [.data, .data, .pinned, .pinned], laidTests := true, laidLooks := .later }
def TraceCutsUptoCardSaid : Prop := Claim7.holds Tryd.pinned (.plain (OpenSpec.upto traceCutsSpec)) traceCutsUptoCard

/-- THE SECOND FORM's CARD OF 'tocsinlaw9.TraceCounts'. -/
def traceCountsUptoCard : Claim7 := { stood := { row := traceCountsUptoRow, standIns := [], harness := (true, "eb15ebf70cd3ac39f5b30e27681326ba4c221ded2468ea5483648a7de497c9a9"), looks := false }, kinds := [], alts := [], laidByText := true, laidKinds := [.data, .data, .pinned, .pinned], laidTests := true, laidLooks := .later }
def TraceCountsUptoCardSaid : Prop := Claim7.holds Tryd.pinned (.plain (OpenSpec.upto traceCountsSpec)) traceCountsUptoCard

/-- THE SECOND FORM's CARD OF 'tocsinlaw9.TraceKnown'. -/
def traceKnownUptoCard : Claim7 := { stood := { row := traceKnownUptoRow, standIns := [], harness := (true, "eb15ebf70cd3ac39f5b30e27681326ba4c221ded2468ea5483648a7de497c9a9"), looks := false }, kinds := [], alts := [], laidByText := true, laidKinds := [.data, .data, .pinned, .pinned], laidTests := true, laidLooks := .later }
def TraceKnownUptoCardSaid : Prop := Claim7.holds Tryd.pinned (.plain (OpenSpec.upto traceKnownSpec)) traceKnownUptoCard

/-- THE SECOND FORM's CARD OF 'tocsinlaw9.TraceSays'. -/
def traceSaysUptoCard : Claim7 := { stood := { row := traceSaysUptoRow, standIns := [], harness := (true, "eb15ebf70cd3ac39f5b30e27681326ba4c221ded2468ea5483648a7de497c9a9"), looks := false }, kinds := [], alts := [], laidByText := true, laidKinds := [.data, .data, .pinned, .pinned], laidTests := true, laidLooks := .later }
def TraceSaysUptoCardSaid : Prop := Claim7.holds Tryd.pinned (.plain (OpenSpec.upto traceSaysSpec)) traceSaysUptoCard
end Rows
end Go.Proofs.YtckceohneklddaaDoor
