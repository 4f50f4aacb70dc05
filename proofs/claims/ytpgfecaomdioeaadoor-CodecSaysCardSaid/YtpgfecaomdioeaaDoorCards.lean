/-
  DERIVED. GIVEN WITH THE SEED: THE CARDS: each row of YtpgfecaomdioeaaDoorRows.lean that lists a variable, with what it lists TIED to the program's text (the seventh form; the later family's looks); each row that meets fmt, with fmt's text TOLD by the authors' own Lean function (tested against real Go, not proved from fmt's source: count such statements apart). THE CARD IS WHAT COUNTS. Prove the row's statement (the work); the ties are given (YtpgfecaomdioeaaDoorTie.lean); close each card by the builder's one call (the guide's Derived/Test/ToyasCard.lean, 'card_holds'). Laid BY PROGRAM, IN A SANDBOX (cutbox-door.mjs). By AI agents, Wed Nov 11 2026. No macro, syntax, notation, axiom, sorry.
-/
import Derived.Test.YtpgfecaomdioeaaDoorRows
import GoSem.ClaimSeven
namespace Go.Proofs.YtpgfecaomdioeaaDoor
namespace Rows

/-- THE TIED CARD OF 'tocsinlaw26.CodecKnown'. -/
def codecKnownCard : Claim7 := { stood := { row := codecKnownRow, standIns := [], harness := (true, "cb10c936b7431d6ef6c28867888dba52566e106ed2b145e92213133a3fd56773"), looks := false }, kinds := [], alts := [], laidByText := true, laidKinds := [.data, .data, .pinned, .pinned], laidTests := true, laidLooks := .later }
def CodecKnownCardSaid : Prop := Claim7.holds Tryd.pinned (.plain (OpenSpec.ofChange codecKnownSpec)) codecKnownCard

/-- THE TIED CARD OF 'tocsinlaw26.CodecSays'. -/
def codecSaysCard : Claim7 := { stood := { row := codecSaysRow, standIns := [], harness := (true, "cb10c936b7431d6ef6c28867888dba52566e106ed2b145e92213133a3fd56773"), looks := false }, kinds := [], alts := [], laidByText := true, laidKinds := [.data, .data, .pinned, .pinned], laidTests := true, laidLooks := .later }
def CodecSaysCardSaid : Prop := Claim7.holds Tryd.pinned (.plain (OpenSpec.ofChange codecSaysSpec)) codecSaysCard

/-- THE TIED CARD OF 'tocsinlaw26.CodecBack'. -/
def codecBackCard : Claim7 := { stood := { row := codecBackRow, standIns := [], harness := (true, "cb10c936b7431d6ef6c28867888dba52566e106ed2b145e92213133a3fd56773"), looks := false }, kinds := [], alts := [], laidByText := true, laidKinds := [.data, .data, .pinned, .pinned], laidTests := true, laidLooks := .later }
def CodecBackCardSaid : Prop := Claim7.holds Tryd.pinned (.plain (OpenSpec.ofChange codecBackSpec)) codecBackCard

/-- THE SECOND FORM's CARD OF 'tocsinlaw26.CodecKnown'. -/
def codecKnownUptoCard : Claim7 := { stood := { row := codecKnownUptoRow, standIns := [], harness := (true, "cb10c936b7431d6ef6c28867888dba52566e106ed2b145e92213133a3fd56773"), looks := false }, kinds := [], alts := [], laidByText := true, laidKinds := [.data, .data, .pinned, .pinned], laidTests := true, laidLooks := .later }
def CodecKnownUptoCardSaid : Prop := Claim7.holds Tryd.pinned (.plain (OpenSpec.upto codecKnownSpec)) codecKnownUptoCard

/-- THE SECOND FORM's CARD OF 'tocsinlaw26.CodecSays'. -/
def codecSaysUptoCard : Claim7 := { stood := { row := codecSaysUptoRow, standIns := [], harness := (true, "cb10c936b7431d6ef6c28867888dba52566e106ed2b145e92213133a3fd56773"), looks := false }, kinds := [], alts := [], laidByText := true, laidKinds := [.data, .data, .pinned, .pinned], laidTests := true, laidLooks := .later }
def CodecSaysUptoCardSaid : Prop := Claim7.holds Tryd.pinned (.plain (OpenSpec.upto codecSaysSpec)) codecSaysUptoCard

/-- THE SECOND FORM's CARD OF 'tocsinlaw26.CodecBack'. -/
def codecBackUptoCard : Claim7 := { stood := { row := codecBackUptoRow, standIns := [], harness := (true, "cb10c936b7431d6ef6c28867888dba52566e106ed2b145e92213133a3fd56773"), looks := false }, kinds := [], alts := [], laidByText := true, laidKinds := [.data, .data, .pinned, .pinned], laidTests := true, laidLooks := .later }
def CodecBackUptoCardSaid : Prop := Claim7.holds Tryd.pinned (.plain (OpenSpec.upto codecBackSpec)) codecBackUptoCard
end Rows
end Go.Proofs.YtpgfecaomdioeaaDoor
