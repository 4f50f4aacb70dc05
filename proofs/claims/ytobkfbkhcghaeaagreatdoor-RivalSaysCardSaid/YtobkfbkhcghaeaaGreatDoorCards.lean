/-
  DERIVED. GIVEN WITH THE SEED: THE CARDS: each row of YtobkfbkhcghaeaaGreatDoorRows.lean that lists a variable, with what it lists TIED to the program's text (the seventh form; the later family's looks); each row that meets fmt, with fmt's text TOLD by the authors' own Lean function (tested against real Go, not proved from fmt's source: count such statements apart). THE CARD IS WHAT COUNTS. Prove the row's statement (the work); the ties are given (YtobkfbkhcghaeaaGreatDoorTie.lean); close each card by the builder's one call (the guide's Derived/Test/ToyasCard.lean, 'card_holds'). Laid BY PROGRAM, IN A SANDBOX (cutbox-door.mjs). By AI agents, Wed Nov 11 2026. No macro, syntax, notation, axiom, sorry.
-/
import Derived.Test.YtobkfbkhcghaeaaGreatDoorRows
import GoSem.ClaimSeven
namespace Go.Proofs.YtobkfbkhcghaeaaGreatDoor
namespace Rows

/-- THE TIED CARD OF 'tocsinlaw24.RivalSays'. -/
def rivalSaysCard : Claim7 := { stood := { row := rivalSaysRow, standIns := [], harness := (true, "6e6f4b2ba7eac326a38dafa9d56c83ee4686c937079212a8e664068d64f044cf"), looks := false }, kinds := [], alts := [], laidByText := true, laidKinds := [.data, .data, .pinned, .pinned], laidTests := true, laidLooks := .later }
def RivalSaysCardSaid : Prop := Claim7.holds Tryz.pinned (.plain (OpenSpec.ofChange rivalSaysSpec)) rivalSaysCard

/-- THE SECOND FORM's CARD OF 'tocsinlaw24.RivalSays'. -/
def rivalSaysUptoCard : Claim7 := { stood := { row := rivalSaysUptoRow, standIns := [], harness := (true, "6e6f4b2ba7eac326a38dafa9d56c83ee4686c937079212a8e664068d64f044cf"), looks := false }, kinds := [], alts := [], laidByText := true, laidKinds := [.data, .data, .pinned, .pinned], laidTests := true, laidLooks := .later }
def RivalSaysUptoCardSaid : Prop := Claim7.holds Tryz.pinned (.plain (OpenSpec.upto rivalSaysSpec)) rivalSaysUptoCard
end Rows
end Go.Proofs.YtobkfbkhcghaeaaGreatDoor
