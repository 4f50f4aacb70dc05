/-
  DERIVED. GIVEN WITH THE SEED: THE CARDS: each row of YtobkfbkhcghaeaaDoorRows.lean that lists a variable, with what it lists TIED to the program's text (the seventh form; the later family's looks); each row that meets fmt, with fmt's text TOLD by the authors' own Lean function (tested against real Go, not proved from fmt's source: count such statements apart). THE CARD IS WHAT COUNTS. Prove the row's statement (the work); the ties are given (YtobkfbkhcghaeaaDoorTie.lean); close each card by the builder's one call (the guide's Derived/Test/ToyasCard.lean, 'card_holds'). Laid BY PROGRAM, IN A SANDBOX (cutbox-door.mjs). By AI agents, Wed Nov 11 2026. No macro, syntax, notation, axiom, sorry.
-/
import Derived.Test.YtobkfbkhcghaeaaDoorRows
import GoSem.ClaimSeven
namespace Go.Proofs.YtobkfbkhcghaeaaDoor
namespace Rows

/-- THE TIED CARD OF 'tocsinlaw24.RivalBest'. -/
def rivalBestCard : Claim7 := { stood := { row := rivalBestRow, standIns := [], harness := (true, "42c12ae6989b92fc04346201d3d0d937b18711cf582a9529b903c043210d576b"), looks := false }, kinds := [], alts := [], laidByText := true, laidKinds := [.data, .data, .pinned, .pinned], laidTests := true, laidLooks := .later }
def RivalBestCardSaid : Prop := Claim7.holds Tryd.pinned (.plain (OpenSpec.ofChange rivalBestSpec)) rivalBestCard

/-- THE TIED CARD OF 'tocsinlaw24.RivalMore'. -/
def rivalMoreCard : Claim7 := { stood := { row := rivalMoreRow, standIns := [], harness := (true, "42c12ae6989b92fc04346201d3d0d937b18711cf582a9529b903c043210d576b"), looks := false }, kinds := [], alts := [], laidByText := true, laidKinds := [.data, .data, .pinned, .pinned], laidTests := true, laidLooks := .later }
def RivalMoreCardSaid : Prop := Claim7.holds Tryd.pinned (.plain (OpenSpec.ofChange rivalMoreSpec)) rivalMoreCard

/-- THE TIED CARD OF 'tocsinlaw24.RivalKnown'. -/
def rivalKnownCard : Claim7 := { stood := { row := rivalKnownRow, standIns := [], harness := (true, "42c12ae6989b92fc04346201d3d0d937b18711cf582a9529b903c043210d576b"), looks := false }, kinds := [], alts := [], laidByText := true, laidKinds := [.data, .data, .pinned, .pinned], laidTests := true, laidLooks := .later }
def RivalKnownCardSaid : Prop := Claim7.holds Tryd.pinned (.plain (OpenSpec.ofChange rivalKnownSpec)) rivalKnownCard

/-- THE SECOND FORM's CARD OF 'tocsinlaw24.RivalBest'. -/
def rivalBestUptoCard : Claim7 := { stood := { row := rivalBestUptoRow, standIns := [], harness := (true, "42c12ae6989b92fc04346201d3d0d937b18711cf582a9529b903c043210d576b"), looks := false }, kinds := [], alts := [], laidByText := true, laidKinds := [.data, .data, .pinned, .pinned], laidTests := true, laidLooks := .later }
def RivalBestUptoCardSaid : Prop := Claim7.holds Tryd.pinned (.plain (OpenSpec.upto rivalBestSpec)) rivalBestUptoCard

/-- THE SECOND FORM's CARD OF 'tocsinlaw24.RivalMore'. -/
def rivalMoreUptoCard : Claim7 := { stood := { row := rivalMoreUptoRow, standIns := [], harness := (true, "42c12ae6989b92fc04346201d3d0d937b18711cf582a9529b903c043210d576b"), looks := false }, kinds := [], alts := [], laidByText := true, laidKinds := [.data, .data, .pinned, .pinned], laidTests := true, laidLooks := .later }
def RivalMoreUptoCardSaid : Prop := Claim7.holds Tryd.pinned (.plain (OpenSpec.upto rivalMoreSpec)) rivalMoreUptoCard

/-- THE SECOND FORM's CARD OF 'tocsinlaw24.RivalKnown'. -/
def rivalKnownUptoCard : Claim7 := { stood := { row := rivalKnownUptoRow, standIns := [], harness := (true, "42c12ae6989b92fc04346201d3d0d937b18711cf582a9529b903c043210d576b"), looks := false }, kinds := [], alts := [], laidByText := true, laidKinds := [.data, .data, .pinned, .pinned], laidTests := true, laidLooks := .later }
def RivalKnownUptoCardSaid : Prop := Claim7.holds Tryd.pinned (.plain (OpenSpec.upto rivalKnownSpec)) rivalKnownUptoCard
end Rows
end Go.Proofs.YtobkfbkhcghaeaaDoor
