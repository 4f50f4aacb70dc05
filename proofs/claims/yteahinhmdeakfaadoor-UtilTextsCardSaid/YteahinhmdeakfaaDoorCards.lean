/-
  DERIVED. GIVEN WITH THE SEED: THE CARDS: each row of YteahinhmdeakfaaDoorRows.lean that lists a variable, with what it lists TIED to the program's text (the seventh form; the later family's looks); each row that meets fmt, with fmt's text TOLD by the authors' own Lean function (tested against real Go, not proved from fmt's source: count such statements apart). THE CARD IS WHAT COUNTS. Prove the row's statement (the work); the ties are given (YteahinhmdeakfaaDoorTie.lean); close each card by the builder's one call (the guide's Derived/Test/ToyasCard.lean, 'card_holds'). Laid BY PROGRAM, IN A SANDBOX (cutbox-door.mjs). By AI agents, Wed Nov 11 2026. No macro, syntax, notation, axiom, sorry.
-/
import Derived.Test.YteahinhmdeakfaaDoorRows
import GoSem.ClaimSeven
namespace Go.Proofs.YteahinhmdeakfaaDoor
namespace Rows

/-- THE TIED CARD OF 'tocsinlaw12.UtilPeriods'. -/
def utilPeriodsCard : Claim7 := { stood := { row := utilPeriodsRow, standIns := [], harness := (true, "48a580eb6154ba227cf72675b8cbe52c1496aae00cba3b164a538688a71db16a"), looks := false }, kinds := [], alts := [], laidByText := true, laidKinds := [.data, .data, .data], laidTests := true, laidLooks := .later }
def UtilPeriodsCardSaid : Prop := Claim7.holds Tryd.pinned (.plain (OpenSpec.ofChange utilPeriodsSpec)) utilPeriodsCard

/-- THE TIED CARD OF 'tocsinlaw12.UtilTexts'. -/
def utilTextsCard : Claim7 := { stood := { row := utilTextsRow, standIns := [], harness := (true, "48a580eb6154ba227cf72675b8cbe52c1496aae00cba3b164a538688a71db16a"), looks := false }, kinds := [], alts := [], laidByText := true, laidKinds := [.data, .data, .data], laidTests := true, laidLooks := .later }
def UtilTextsCardSaid : Prop := Claim7.holds Tryd.pinned (.plain (OpenSpec.ofChange utilTextsSpec)) utilTextsCard

/-- THE TIED CARD OF 'tocsinlaw12.UtilKnown'. -/
def utilKnownCard : Claim7 := { stood := { row := utilKnownRow, standIns := [], harness := (true, "48a580eb6154ba227cf72675b8cbe52c1496aae00cba3b164a538688a71db16a"), looks := false }, kinds := [], alts := [], laidByText := true, laidKinds := [.data, .data, .data], laidTests := true, laidLooks := .later }
def UtilKnownCardSaid : Prop := Claim7.holds Tryd.pinned (.plain (OpenSpec.ofChange utilKnownSpec)) utilKnownCard

/-- THE TIED CARD OF 'tocsinlaw12.UtilSays'. -/
def utilSaysCard : Claim7 := { stood := { row := utilSaysRow, standIns := [], harness := (true, "48a580eb6154ba227cf72675b8cbe52c1496aae00cba3b164a538688a71db16a"), looks := false }, kinds := [], alts := [], laidByText := true, laidKinds := [.data, .data, .data], laidTests := true, laidLooks := .later }
def UtilSaysCardSaid : Prop := Claim7.holds Tryd.pinned (.plain (OpenSpec.ofChange utilSaysSpec)) utilSaysCard

/-- THE TIED CARD OF 'tocsinlaw12.UtilSums'. -/
def utilSumsCard : Claim7 := { stood := { row := utilSumsRow, standIns := [], harness := (true, "48a580eb6154ba227cf72675b8cbe52c1496aae00cba3b164a538688a71db16a"), looks := false }, kinds := [], alts := [], laidByText := true, laidKinds := [.data, .data, .data], laidTests := true, laidLooks := .later }
def UtilSumsCardSaid : Prop := Claim7.holds Tryd.pinned (.plain (OpenSpec.ofChange utilSumsSpec)) utilSumsCard

/-- THE SECOND FORM's CARD OF 'tocsinlaw12.UtilPeriods'. -/
def utilPeriodsUptoCard : Claim7 := { stood := { row := utilPeriodsUptoRow, standIns := [], harness := (true, "48a580eb6154ba227cf72675b8cbe52c1496aae00cba3b164a538688a71db16a"), looks := false }, kinds := [], alts := [], laidByText := true, laidKinds := [.data, .data, .data], laidTests := true, laidLooks := .later }
def UtilPeriodsUptoCardSaid : Prop := Claim7.holds Tryd.pinned (.plain (OpenSpec.upto utilPeriodsSpec)) utilPeriodsUptoCard

/-- THE SECOND FORM's CARD OF 'tocsinlaw12.UtilTexts'. -/
def utilTextsUptoCard : Claim7 := { stood := { row := utilTextsUptoRow, standIns := [], harness := (true, "48a580eb6154ba227cf72675b8cbe52c1496aae00cba3b164a538688a71db16a"), looks := false }, kinds := [], alts := [], laidByText := true, laidKinds := [.data, .data, .data], laidTests := true, laidLooks := .later }
def UtilTextsUptoCardSaid : Prop := Claim7.holds Tryd.pinned (.plain (OpenSpec.upto utilTextsSpec)) utilTextsUptoCard

/-- THE SECOND FORM's CARD OF 'tocsinlaw12.UtilKnown'. -/
def utilKnownUptoCard : Claim7 := { stood := { row := utilKnownUptoRow, standIns := [], harness := (true, "48a580eb6154ba227cf72675b8cbe52c1496aae00cba3b164a538688a71db16a"), looks := false }, kinds := [], alts := [], laidByText := true, laidKinds := [.data, .data, .data], laidTests := true, laidLooks := .later }
def UtilKnownUptoCardSaid : Prop := Claim7.holds Tryd.pinned (.plain (OpenSpec.upto utilKnownSpec)) utilKnownUptoCard

/-- THE SECOND FORM's CARD OF 'tocsinlaw12.UtilSays'. -/
def utilSaysUptoCard : Claim7 := { stood := { row := utilSaysUptoRow, standIns := [], harness := (true, "48a580eb6154ba227cf72675b8cbe52c1496aae00cba3b164a538688a71db16a"), looks := false }, kinds := [], alts := [], laidByText := true, laidKinds := [.data, .data, .data], laidTests := true, laidLooks := .later }
def UtilSaysUptoCardSaid : Prop := Claim7.holds Tryd.pinned (.plain (OpenSpec.upto utilSaysSpec)) utilSaysUptoCard

/-- THE SECOND FORM's CARD OF 'tocsinlaw12.UtilSums'. -/
def utilSumsUptoCard : Claim7 := { stood := { row := utilSumsUptoRow, standIns := [], harness := (true, "48a580eb6154ba227cf72675b8cbe52c1496aae00cba3b164a538688a71db16a"), looks := false }, kinds := [], alts := [], laidByText := true, laidKinds := [.data, .data, .data], laidTests := true, laidLooks := .later }
def UtilSumsUptoCardSaid : Prop := Claim7.holds Tryd.pinned (.plain (OpenSpec.upto utilSumsSpec)) utilSumsUptoCard
end Rows
end Go.Proofs.YteahinhmdeakfaaDoor
