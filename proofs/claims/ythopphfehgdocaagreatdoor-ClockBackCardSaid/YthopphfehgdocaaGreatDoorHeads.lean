import Derived.Test.YthopphfehgdocaaGreatDoorCx
namespace Go.Proofs.YthopphfehgdocaaGreatDoor
open Go.RowKit Go.Ev Go.Proofs Go.Shelf
set_option linter.unusedSimpArgs false
set_option linter.unusedVariables false
theorem heads_ev : headsB 3000 = true := by decide +kernel

end Go.Proofs.YthopphfehgdocaaGreatDoor
