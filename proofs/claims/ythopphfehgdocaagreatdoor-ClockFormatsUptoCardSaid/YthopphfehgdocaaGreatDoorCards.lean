/-
  DERIVED. GIVEN WITH THE SEED: THE CARDS: each row of YthopphfehgdocaaGreatDoorRows.lean that lists a variable, with what it lists TIED to the program's text (the seventh form; the later family's looks); each row that meets fmt, with fmt's text TOLD by the authors' own Lean function (tested against real Go, not proved from fmt's source: count such statements apart). THE CARD IS WHAT COUNTS. Prove the row's statement (the work); the ties are given (YthopphfehgdocaaGreatDoorTie.lean); close each card by the builder's one call (the guide's Derived/Test/ToyasCard.lean, 'card_holds'). Laid BY PROGRAM, IN A SANDBOX (cutbox-door.mjs). By AI agents, Wed Nov 11 2026. No macro, syntax, notation, axiom, sorry.
-/
import Derived.Test.YthopphfehgdocaaGreatDoorRows
import GoSem.ClaimSeven
namespace Go.Proofs.YthopphfehgdocaaGreatDoor
namespace Rows

/-- THE TIED CARD OF 'colanderlaw12.ClockFormats'. -/
def clockFormatsCard : Claim7 := { stood := { row := clockFormatsRow, standIns := [], harness := (true, "33937bc81373e0f304f7338f3f443ef3d513186a6e25bbaa951c0515740e8ae0"), looks := true }, kinds := [], alts := [], laidByText := true, laidKinds := [.data, .data, .data, .data, .sentinel, .data, .data, .pinned, .pinned], laidTests := true, laidLooks := .later }
def ClockFormatsCardSaid : Prop := Claim7.holds Tryz.pinned (.plain (OpenSpec.ofChange clockFormatsSpec)) clockFormatsCard

/-- THE TIED CARD OF 'colanderlaw12.ClockParses'. -/
def clockParsesCard : Claim7 := { stood := { row := clockParsesRow, standIns := [], harness := (true, "33937bc81373e0f304f7338f3f443ef3d513186a6e25bbaa951c0515740e8ae0"), looks := true }, kinds := [], alts := [], laidByText := true, laidKinds := [.data, .data, .data, .data, .sentinel, .data, .data, .pinned, .pinned], laidTests := true, laidLooks := .later }
def ClockParsesCardSaid : Prop := Claim7.holds Tryz.pinned (.plain (OpenSpec.ofChange clockParsesSpec)) clockParsesCard

/-- THE TIED CARD OF 'colanderlaw12.ClockBack'. -/
def clockBackCard : Claim7 := { stood := { row := clockBackRow, standIns := [], harness := (true, "33937bc81373e0f304f7338f3f443ef3d513186a6e25bbaa951c0515740e8ae0"), looks := true }, kinds := [], alts := [], laidByText := true, laidKinds := [.data, .data, .data, .data, .sentinel, .data, .data, .pinned, .pinned], laidTests := true, laidLooks := .later }
def ClockBackCardSaid : Prop := Claim7.holds Tryz.pinned (.plain (OpenSpec.ofChange clockBackSpec)) clockBackCard

/-- THE TIED CARD OF 'colanderlaw12.ClockTurns'. -/
def clockTurnsCard : Claim7 := { stood := { row := clockTurnsRow, standIns := [], harness := (true, "33937bc81373e0f304f7338f3f443ef3d513186a6e25bbaa951c0515740e8ae0"), looks := true }, kinds := [], alts := [], laidByText := true, laidKinds := [.data, .data, .data, .data, .sentinel, .data, .data, .pinned, .pinned], laidTests := true, laidLooks := .later }
def ClockTurnsCardSaid : Prop := Claim7.holds Tryz.pinned (.plain (OpenSpec.ofChange clockTurnsSpec)) clockTurnsCard

/-- THE TIED CARD OF 'colanderlaw12.ClockOrder'. -/
def clockOrderCard : Claim7 := { stood := { row := clockOrderRow, standIns := [], harness := (true, "33937bc81373e0f304f7338f3f443ef3d513186a6e25bbaa951c0515740e8ae0"), looks := true }, kinds := [], alts := [], laidByText := true, laidKinds := [.data, .data, .data, .data, .sentinel, .data, .data, .pinned, .pinned], laidTests := true, laidLooks := .later }
def ClockOrderCardSaid : Prop := Claim7.holds Tryz.pinned (.plain (OpenSpec.ofChange clockOrderSpec)) clockOrderCard

/-- THE TIED CARD OF 'colanderlaw12.ClockValues'. -/
def clockValuesCard : Claim7 := { stood := { row := clockValuesRow, standIns := [], harness := (true, "33937bc81373e0f304f7338f3f443ef3d513186a6e25bbaa951c0515740e8ae0"), looks := true }, kinds := [], alts := [], laidByText := true, laidKinds := [.data, .data, .data, .data, .sentinel, .data, .data, .pinned, .pinned], laidTests := true, laidLooks := .later }
def ClockValuesCardSaid : Prop := Claim7.holds Tryz.pinned (.plain (OpenSpec.ofChange clockValuesSpec)) clockValuesCard

/-- THE SECOND FORM's CARD OF 'colanderlaw12.ClockFormats'. -/
def clockFormatsUptoCard : Claim7 := { stood := { row := clockFormatsUptoRow, standIns := [], harness := (true, "33937bc81373e0f304f7338f3f443ef3d513186a6e25bbaa951c0515740e8ae0"), looks := true }, kinds := [], alts := [], laidByText := true, laidKinds := [.data, .data, .data, .data, .sentinel, .data, .data, .pinned, .pinned], laidTests := true, laidLooks := .later }
def ClockFormatsUptoCardSaid : Prop := Claim7.holds Tryz.pinned (.plain (OpenSpec.upto clockFormatsSpec)) clockFormatsUptoCard

/-- THE SECOND FORM's CARD OF 'colanderlaw12.ClockParses'. -/
def clockParsesUptoCard : Claim7 := { stood := { row := clockParsesUptoRow, standIns := [], harness := (true, "33937bc81373e0f304f7338f3f443ef3d513186a6e25bbaa951c0515740e8ae0"), looks := true }, kinds := [], alts := [], laidByText := true, laidKinds := [.data, .data, .data, .data, .sentinel, .data, .data, .pinned, .pinned], laidTests := true, laidLooks := .later }
def ClockParsesUptoCardSaid : Prop := Claim7.holds Tryz.pinned (.plain (OpenSpec.upto clockParsesSpec)) clockParsesUptoCard

/-- THE SECOND FORM's CARD OF 'colanderlaw12.ClockBack'. -/
def clockBackUptoCard : Claim7 := { stood := { row := clockBackUptoRow, standIns := [], harness := (true, "33937bc81373e0f304f7338f3f443ef3d513186a6e25bbaa951c0515740e8ae0"), looks := true }, kinds := [], alts := [], laidByText := true, laidKinds := [.data, .data, .data, .data, .sentinel, .data, .data, .pinned, .pinned], laidTests := true, laidLooks := .later }
def ClockBackUptoCardSaid : Prop := Claim7.holds Tryz.pinned (.plain (OpenSpec.upto clockBackSpec)) clockBackUptoCard

/-- THE SECOND FORM's CARD OF 'colanderlaw12.ClockTurns'. -/
def clockTurnsUptoCard : Claim7 := { stood := { row := clockTurnsUptoRow, standIns := [], harness := (true, "33937bc81373e0f304f7338f3f443ef3d513186a6e25bbaa951c0515740e8ae0"), looks := true }, kinds := [], alts := [], laidByText := true, laidKinds := [.data, .data, .data, .data, .sentinel, .data, .data, .pinned, .pinned], laidTests := true, laidLooks := .later }
def ClockTurnsUptoCardSaid : Prop := Claim7.holds Tryz.pinned (.plain (OpenSpec.upto clockTurnsSpec)) clockTurnsUptoCard

/-- THE SECOND FORM's CARD OF 'colanderlaw12.ClockOrder'. -/
def clockOrderUptoCard : Claim7 := { stood := { row := clockOrderUptoRow, standIns := [], harness := (true, "33937bc81373e0f304f7338f3f443ef3d513186a6e25bbaa951c0515740e8ae0"), looks := true }, kinds := [], alts := [], laidByText := true, laidKinds := [.data, .data, .data, .data, .sentinel, .data, .data, .pinned, .pinned], laidTests := true, laidLooks := .later }
def ClockOrderUptoCardSaid : Prop := Claim7.holds Tryz.pinned (.plain (OpenSpec.upto clockOrderSpec)) clockOrderUptoCard

/-- THE SECOND FORM's CARD OF 'colanderlaw12.ClockValues'. -/
def clockValuesUptoCard : Claim7 := { stood := { row := clockValuesUptoRow, standIns := [], harness := (true, "33937bc81373e0f304f7338f3f443ef3d513186a6e25bbaa951c0515740e8ae0"), looks := true }, kinds := [], alts := [], laidByText := true, laidKinds := [.data, .data, .data, .data, .sentinel, .data, .data, .pinned, .pinned], laidTests := true, laidLooks := .later }
def ClockValuesUptoCardSaid : Prop := Claim7.holds Tryz.pinned (.plain (OpenSpec.upto clockValuesSpec)) clockValuesUptoCard
end Rows
end Go.Proofs.YthopphfehgdocaaGreatDoor
