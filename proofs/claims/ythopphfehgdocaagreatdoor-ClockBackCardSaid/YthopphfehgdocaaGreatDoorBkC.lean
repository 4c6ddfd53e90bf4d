import Derived.Test.YthopphfehgdocaaGreatDoorBk3
namespace Go.Proofs.YthopphfehgdocaaGreatDoor
open Go Go.RowKit Go.Ev Go.Proofs Go.Shelf
set_option linter.unusedSimpArgs false
set_option linter.unusedVariables false
theorem c4_0_0 : C40 0 0 := fun _ _ _ _ _ _ _ _ _ _ _ _ => ⟨by kernel_rfl, by kernel_rfl, by kernel_rfl⟩
theorem c4_1_0 : C40 0 1 := fun _ _ _ _ _ _ _ _ _ _ _ _ => ⟨by kernel_rfl, by kernel_rfl, by kernel_rfl⟩
theorem c4_2_0 : C40 0 2 := fun _ _ _ _ _ _ _ _ _ _ _ _ => ⟨by kernel_rfl, by kernel_rfl, by kernel_rfl⟩
theorem c4_3_0 : C40 0 3 := fun _ _ _ _ _ _ _ _ _ _ _ _ => ⟨by kernel_rfl, by kernel_rfl, by kernel_rfl⟩
theorem c4_5_0 : C40 0 5 := fun _ _ _ _ _ _ _ _ _ _ _ _ => ⟨by kernel_rfl, by kernel_rfl, by kernel_rfl⟩
theorem c4_6_0 : C40 0 6 := fun _ _ _ _ _ _ _ _ _ _ _ _ => ⟨by kernel_rfl, by kernel_rfl, by kernel_rfl⟩
theorem c4_7_0 : C40 0 7 := fun _ _ _ _ _ _ _ _ _ _ _ _ => ⟨by kernel_rfl, by kernel_rfl, by kernel_rfl⟩
theorem c4_8_0 : C40 0 8 := fun _ _ _ _ _ _ _ _ _ _ _ _ => ⟨by kernel_rfl, by kernel_rfl, by kernel_rfl⟩
theorem c4_9_0 : C40 0 9 := fun _ _ _ _ _ _ _ _ _ _ _ _ => ⟨by kernel_rfl, by kernel_rfl, by kernel_rfl⟩
theorem c4_10_0 : C40 0 10 := fun _ _ _ _ _ _ _ _ _ _ _ _ => ⟨by kernel_rfl, by kernel_rfl, by kernel_rfl⟩
theorem c4_11_0 : C40 0 11 := fun _ _ _ _ _ _ _ _ _ _ _ _ => ⟨by kernel_rfl, by kernel_rfl, by kernel_rfl⟩
theorem c4_4_0 : C4m0 0 4 := fun _ _ _ _ _ _ _ _ _ _ _ _ => ⟨by kernel_rfl, by kernel_rfl, by kernel_rfl⟩
theorem c4_0_1 : C41 0 0 := fun _ _ _ _ _ _ _ _ _ _ _ _ => ⟨by kernel_rfl, by kernel_rfl, by kernel_rfl⟩
theorem c4_1_1 : C41 0 1 := fun _ _ _ _ _ _ _ _ _ _ _ _ => ⟨by kernel_rfl, by kernel_rfl, by kernel_rfl⟩
theorem c4_2_1 : C41 0 2 := fun _ _ _ _ _ _ _ _ _ _ _ _ => ⟨by kernel_rfl, by kernel_rfl, by kernel_rfl⟩
theorem c4_3_1 : C41 0 3 := fun _ _ _ _ _ _ _ _ _ _ _ _ => ⟨by kernel_rfl, by kernel_rfl, by kernel_rfl⟩
theorem c4_5_1 : C41 0 5 := fun _ _ _ _ _ _ _ _ _ _ _ _ => ⟨by kernel_rfl, by kernel_rfl, by kernel_rfl⟩
theorem c4_6_1 : C41 0 6 := fun _ _ _ _ _ _ _ _ _ _ _ _ => ⟨by kernel_rfl, by kernel_rfl, by kernel_rfl⟩
theorem c4_7_1 : C41 0 7 := fun _ _ _ _ _ _ _ _ _ _ _ _ => ⟨by kernel_rfl, by kernel_rfl, by kernel_rfl⟩
theorem c4_8_1 : C41 0 8 := fun _ _ _ _ _ _ _ _ _ _ _ _ => ⟨by kernel_rfl, by kernel_rfl, by kernel_rfl⟩
theorem c4_9_1 : C41 0 9 := fun _ _ _ _ _ _ _ _ _ _ _ _ => ⟨by kernel_rfl, by kernel_rfl, by kernel_rfl⟩
theorem c4_10_1 : C41 0 10 := fun _ _ _ _ _ _ _ _ _ _ _ _ => ⟨by kernel_rfl, by kernel_rfl, by kernel_rfl⟩
theorem c4_11_1 : C41 0 11 := fun _ _ _ _ _ _ _ _ _ _ _ _ => ⟨by kernel_rfl, by kernel_rfl, by kernel_rfl⟩
theorem c4_4_1 : C4m1 0 4 := fun _ _ _ _ _ _ _ _ _ _ _ _ => ⟨by kernel_rfl, by kernel_rfl, by kernel_rfl⟩
end Go.Proofs.YthopphfehgdocaaGreatDoor
