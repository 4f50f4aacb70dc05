/-
  DERIVED. GIVEN WITH THE SEED: THE CARDS: each row of YtfoafigpimhppaaDoorRows.lean that lists a variable, with what it lists TIED to the program's text (the seventh form; the later family's looks); each row that meets fmt, with fmt's text TOLD by the authors' own Lean function (tested against real Go, not proved from fmt's source: count such statements apart). THE CARD IS WHAT COUNTS. Prove the row's statement (the work); the ties are given (YtfoafigpimhppaaDoorTie.lean); close each card by the builder's one call (the guide's Derived/Test/ToyasCard.lean, 'card_holds'). Laid BY PROGRAM, IN A SANDBOX (cutbox-door.mjs). By AI agents, Wed Nov 11 2026. No macro, syntax, notation, axiom, sorry.
-/
import Derived.Test.YtfoafigpimhppaaDoorRows
import GoSem.ClaimSeven
namespace Go.Proofs.YtfoafigpimhppaaDoor
namespace Rows

/-- THE TIED CARD OF 'tocsinlaw3.NameWords'. -/
def nameWordsCard : Claim7 := { stood := { row := nameWordsRow, standIns := [], harness := (true, "88e5fe75c2740dce89efaccb859eab7ad25d7beb69985a56be2168ac3603b69b"), looks := false }, kinds := [], alts := [], laidByText := true, laidKinds := [.data, .data, .pinned, .pinned], laidTests := true, laidLooks := .later }
def NameWordsCardSaid : Prop := Claim7.holds Tryd.pinned (.plain (OpenSpec.ofChange nameWordsSpec)) nameWordsCard

/-- THE TIED CARD OF 'tocsinlaw3.NameRunes'. -/
def nameRunesCard : Claim7 := { stood := { row := nameRunesRow, standIns := [], harness := (true, "88e5fe75c2740dce89efaccb859eab7ad25d7beb69985a56be2168ac3603b69b"), looks := false }, kinds := [], alts := [], laidByText := true, laidKinds := [.data, .data, .pinned, .pinned], laidTests := true, laidLooks := .later }
def NameRunesCardSaid : Prop := Claim7.holds Tryd.pinned (.plain (OpenSpec.ofChange nameRunesSpec)) nameRunesCard

/-- THE TIED CARD OF 'tocsinlaw3.NameParts'. -/
def namePartsCard : Claim7 := { stood := { row := namePartsRow, standIns := [], harness := (true, "88e5fe75c2740dce89efaccb859eab7ad25d7beb69985a56be2168ac3603b69b"), looks := false }, kinds := [], alts := [], laidByText := true, laidKinds := [.data, .data, .pinned, .pinned], laidTests := true, laidLooks := .later }
def NamePartsCardSaid : Prop := Claim7.holds Tryd.pinned (.plain (OpenSpec.ofChange namePartsSpec)) namePartsCard

/-- THE TIED CARD OF 'tocsinlaw3.NameKnown'. -/
def nameKnownCard : Claim7 := { stood := { row := nameKnownRow, standIns := [], harness := (true, "88e5fe75c2740dce89efaccb859eab7ad25d7beb69985a56be2168ac3603b69b"), looks := false }, kinds := [], alts := [], laidByText := true, laidKinds := [.data, .data, .pinned, .pinned], laidTests := true, laidLooks := .later }
def NameKnownCardSaid : Prop := Claim7.holds Tryd.pinned (.plain (OpenSpec.ofChange nameKnownSpec)) nameKnownCard

/-- THE TIED CARD OF 'tocsinlaw3.NameSays'. -/
def nameSaysCard : Claim7 := { stood := { row := nameSaysRow, standIns := [], harness := (true, "88e5fe75c2740dce89efaccb859eab7ad25d7beb69985a56be2168ac3603b69b"), looks := false }, kinds := [], alts := [], laidByText := true, laidKinds := [.data, .data, .pinned, .pinned], laidTests := true, laidLooks := .later }
def NameSaysCardSaid : Prop := Claim7.holds Tryd.pinned (.plain (OpenSpec.ofChange nameSaysSpec)) nameSaysCard

/-- THE TIED CARD OF 'tocsinlaw3.NameNums'. -/
def nameNumsCard : Claim7 := { stood := { row := nameNumsRow, standIns := [], harness := (true, "88e5fe75c2740dce89efaccb859eab7ad25d7beb69985a56be2168ac3603b69b"), looks := false }, kinds := [], alts := [], laidByText := true, laidKinds := [.data, .data, .pinned, .pinned], laidTests := true, laidLooks := .later }
def NameNumsCardSaid : Prop := Claim7.holds Tryd.pinned (.plain (OpenSpec.ofChange nameNumsSpec)) nameNumsCard

/-- THE SECOND FORM's CARD OF 'tocsinlaw3.NameWords'. -/
def nameWordsUptoCard : Claim7 := { stood := { row := nameWordsUptoRow, standIns := [], harness := (true, "88e5fe75c2740dce89efaccb859eab7ad25d7beb69985a56be2168ac3603b69b"), looks := false }, kinds := [], alts := [], laidByText := true, laidKinds := [.data, .data, .pinned, .pinned], laidTests := true, laidLooks := .later }
def NameWordsUptoCardSaid : Prop := Claim7.holds Tryd.pinned (.plain (OpenSpec.upto nameWordsSpec)) nameWordsUptoCard

/-- THE SECOND FORM's CARD OF 'tocsinlaw3.NameRunes'. -/
def nameRunesUptoCard : Claim7 := { stood := { row := nameRunesUptoRow, standIns := [], harness := (true, "88e5fe75c2740dce89efaccb859eab7ad25d7beb69985a56be2168ac3603b69b"), looks := false }, kinds := [], alts := [], laidByText := true, laidKinds := [.data, .data, .pinned, .pinned], laidTests := true, laidLooks := .later }
def NameRunesUptoCardSaid : Prop := Claim7.holds Tryd.pinned (.plain (OpenSpec.upto nameRunesSpec)) nameRunesUptoCard

/-- THE SECOND FORM's CARD OF 'tocsinlaw3.NameParts'. -/
def namePartsUptoCard : Claim7 := { stood := { row := namePartsUptoRow, standIns := [], harness := (true, "88e5fe75c2740dce89efaccb859eab7ad25d7beb69985a56be2168ac3603b69b"), looks := false }, kinds := [], alts := [], laidByText := true, laidKinds := [.data, .data, .pinned, .pinned], laidTests := true, laidLooks := .later }
def NamePartsUptoCardSaid : Prop := Claim7.holds Tryd.pinned (.plain (OpenSpec.upto namePartsSpec)) namePartsUptoCard

/-- THE SECOND FORM's CARD OF 'tocsinlaw3.NameKnown'. -/
def nameKnownUptoCard : Claim7 := { stood := { row := nameKnownUptoRow, standIns := [], harness := (true, "88e5fe75c2740dce89efaccb859eab7ad25d7beb69985a56be2168ac3603b69b"), looks := false }, kinds := [], alts := [], laidByText := true, laidKinds := [.data, .data, .pinned, .pinned], laidTests := true, laidLooks := .later }
def NameKnownUptoCardSaid : Prop := Claim7.holds Tryd.pinned (.plain (OpenSpec.upto nameKnownSpec)) nameKnownUptoCard

/-- THE SECOND FORM's CARD OF 'tocsinlaw3.NameSays'. -/
def nameSaysUptoCard : Claim7 := { stood := { row := nameSaysUptoRow, standIns := [], harness := (true, "88e5fe75c2740dce89efaccb859eab7ad25d7beb69985a56be2168ac3603b69b"), looks := false }, kinds := [], alts := [], laidByText := true, laidKinds := [.data, .data, .pinned, .pinned], laidTests := true, laidLooks := .later }
def NameSaysUptoCardSaid : Prop := Claim7.holds Tryd.pinned (.plain (OpenSpec.upto nameSaysSpec)) nameSaysUptoCard

/-- THE SECOND FORM's CARD OF 'tocsinlaw3.NameNums'. -/
def nameNumsUptoCard : Claim7 := { stood := { row := nameNumsUptoRow, standIns := [], harness := (true, "88e5fe75c2740dce89efaccb859eab7ad25d7beb69985a56be2168ac3603b69b"), looks := false }, kinds := [], alts := [], laidByText := true, laidKinds := [.data, .data, .pinned, .pinned], laidTests := true, laidLooks := .later }
def NameNumsUptoCardSaid : Prop := Claim7.holds Tryd.pinned (.plain (OpenSpec.upto nameNumsSpec)) nameNumsUptoCard
end Rows
end Go.Proofs.YtfoafigpimhppaaDoor
