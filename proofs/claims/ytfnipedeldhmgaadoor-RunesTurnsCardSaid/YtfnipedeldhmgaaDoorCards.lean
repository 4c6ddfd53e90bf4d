/-
  DERIVED. GIVEN WITH THE SEED: THE CARDS: each row of YtfnipedeldhmgaaDoorRows.lean that lists a variable, with what it lists TIED to the program's text (the seventh form; the later family's looks); each row that meets fmt, with fmt's text TOLD by the authors' own Lean function (tested against real Go, not proved from fmt's source: count such statements apart). THE CARD IS WHAT COUNTS. Prove the row's statement (the work); the ties are given (YtfnipedeldhmgaaDoorTie.lean); close each card by the builder's one call (the guide's Derived/Test/ToyasCard.lean, 'card_holds'). Laid BY PROGRAM, IN A SANDBOX (cutbox-door.mjs). By AI agents, Wed Nov 11 2026. No macro, syntax, notation, axiom, sorry.
-/
import Derived.Test.YtfnipedeldhmgaaDoorRows
import GoSem.ClaimSeven
namespace Go.Proofs.YtfnipedeldhmgaaDoor
namespace Rows

/-- THE TIED CARD OF 'colanderlaw01.RunesCuts'. -/
def runesCutsCard : Claim7 := { stood := { row := runesCutsRow, standIns := [], harness := (true, "221651c7e717a9c84a0c157fc307c2864da4490ab719d198f9860b84d1f73b4f"), looks := false }, kinds := [], alts := [], laidByText := true, laidKinds := [.data, .pinned], laidTests := true, laidLooks := .later }
def RunesCutsCardSaid : Prop := Claim7.holds Tryd.pinned (.plain (OpenSpec.ofChange runesCutsSpec)) runesCutsCard

/-- THE TIED CARD OF 'colanderlaw01.RunesTurns'. -/
def runesTurnsCard : Claim7 := { stood := { row := runesTurnsRow, standIns := [], harness := (true, "221651c7e717a9c84a0c157fc307c2864da4490ab719d198f9860b84d1f73b4f"), looks := false }, kinds := [], alts := [], laidByText := true, laidKinds := [.data, .pinned], laidTests := true, laidLooks := .later }
def RunesTurnsCardSaid : Prop := Claim7.holds Tryd.pinned (.plain (OpenSpec.ofChange runesTurnsSpec)) runesTurnsCard

/-- THE TIED CARD OF 'colanderlaw01.RunesJoined'. -/
def runesJoinedCard : Claim7 := { stood := { row := runesJoinedRow, standIns := [], harness := (true, "221651c7e717a9c84a0c157fc307c2864da4490ab719d198f9860b84d1f73b4f"), looks := false }, kinds := [], alts := [], laidByText := true, laidKinds := [.data, .pinned], laidTests := true, laidLooks := .later }
def RunesJoinedCardSaid : Prop := Claim7.holds Tryd.pinned (.plain (OpenSpec.ofChange runesJoinedSpec)) runesJoinedCard

/-- THE TIED CARD OF 'colanderlaw01.RunesPoints'. -/
def runesPointsCard : Claim7 := { stood := { row := runesPointsRow, standIns := [], harness := (true, "221651c7e717a9c84a0c157fc307c2864da4490ab719d198f9860b84d1f73b4f"), looks := false }, kinds := [], alts := [], laidByText := true, laidKinds := [.data, .pinned], laidTests := true, laidLooks := .later }
def RunesPointsCardSaid : Prop := Claim7.holds Tryd.pinned (.plain (OpenSpec.ofChange runesPointsSpec)) runesPointsCard

/-- THE TIED CARD OF 'colanderlaw01.RunesBack'. -/
def runesBackCard : Claim7 := { stood := { row := runesBackRow, standIns := [], harness := (true, "221651c7e717a9c84a0c157fc307c2864da4490ab719d198f9860b84d1f73b4f"), looks := false }, kinds := [], alts := [], laidByText := true, laidKinds := [.data, .pinned], laidTests := true, laidLooks := .later }
def RunesBackCardSaid : Prop := Claim7.holds Tryd.pinned (.plain (OpenSpec.ofChange runesBackSpec)) runesBackCard

/-- THE SECOND FORM's CARD OF 'colanderlaw01.RunesCuts'. -/
def runesCutsUptoCard : Claim7 := { stood := { row := runesCutsUptoRow, standIns := [], harness := (true, "221651c7e717a9c84a0c157fc307c2864da4490ab719d198f9860b84d1f73b4f"), looks := false }, kinds := [], alts := [], laidByText := true, laidKinds := [.data, .pinned], laidTests := true, laidLooks := .later }
def RunesCutsUptoCardSaid : Prop := Claim7.holds Tryd.pinned (.plain (OpenSpec.upto runesCutsSpec)) runesCutsUptoCard

/-- THE SECOND FORM's CARD OF 'colanderlaw01.RunesTurns'. -/
def runesTurnsUptoCard : Claim7 := { stood := { row := runesTurnsUptoRow, standIns := [], harness := (true, "221651c7e717a9c84a0c157fc307c2864da4490ab719d198f9860b84d1f73b4f"), looks := false }, kinds := [], alts := [], laidByText := true, laidKinds := [.data, .pinned], laidTests := true, laidLooks := .later }
def RunesTurnsUptoCardSaid : Prop := Claim7.holds Tryd.pinned (.plain (OpenSpec.upto runesTurnsSpec)) runesTurnsUptoCard

/-- THE SECOND FORM's CARD OF 'colanderlaw01.RunesJoined'. -/
def runesJoinedUptoCard : Claim7 := { stood := { row := runesJoinedUptoRow, standIns := [], harness := (true, "221651c7e717a9c84a0c157fc307c2864da4490ab719d198f9860b84d1f73b4f"), looks := false }, kinds := [], alts := [], laidByText := true, laidKinds := [.data, .pinned], laidTests := true, laidLooks := .later }
def RunesJoinedUptoCardSaid : Prop := Claim7.holds Tryd.pinned (.plain (OpenSpec.upto runesJoinedSpec)) runesJoinedUptoCard

/-- THE SECOND FORM's CARD OF 'colanderlaw01.RunesPoints'. -/
def runesPointsUptoCard : Claim7 := { stood := { row := runesPointsUptoRow, standIns := [], harness := (true, "221651c7e717a9c84a0c157fc307c2864da4490ab719d198f9860b84d1f73b4f"), looks := false }, kinds := [], alts := [], laidByText := true, laidKinds := [.data, .pinned], laidTests := true, laidLooks := .later }
def RunesPointsUptoCardSaid : Prop := Claim7.holds Tryd.pinned (.plain (OpenSpec.upto runesPointsSpec)) runesPointsUptoCard

/-- THE SECOND FORM's CARD OF 'colanderlaw01.RunesBack'. -/
def runesBackUptoCard : Claim7 := { stood := { row := runesBackUptoRow, standIns := [], harness := (true, "221651c7e717a9c84a0c157fc307c2864da4490ab719d198f9860b84d1f73b4f"), looks := false }, kinds := [], alts := [], laidByText := true, laidKinds := [.data, .pinned], laidTests := true, laidLooks := .later }
def RunesBackUptoCardSaid : Prop := Claim7.holds Tryd.pinned (.plain (OpenSpec.upto runesBackSpec)) runesBackUptoCard
end Rows
end Go.Proofs.YtfnipedeldhmgaaDoor
