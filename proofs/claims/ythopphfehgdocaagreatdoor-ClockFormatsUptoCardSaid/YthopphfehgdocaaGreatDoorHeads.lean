import Derived.Test.YthopphfehgdocaaGreatDoorCx
set_option linter.unusedSimpArgs false
set_option linter.unusedVariables false
namespace Go.Proofs.YthopphfehgdocaaGreatDoor
open Go.RowKit Go.Ev Go.Proofs Go.Shelf
theorem heads_ev : headsB 3000 = true := by decide +kernel
end Go.Proofs.YthopphfehgdocaaGreatDoor
