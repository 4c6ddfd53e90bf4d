import Derived.Test.YthopphfehgdocaaGreatDoorBk3
namespace Go.Proofs.YthopphfehgdocaaGreatDoor
open Go Go.RowKit Go.Ev Go.Proofs Go.Shelf
set_option linter.unusedSimpArgs false
set_option linter.unusedVariables false
theorem c2_1_0_0 : C20 1 0 := fun _ _ _ _ _ _ _ _ _ _ _ => ⟨by kernel_rfl, by kernel_rfl, by kernel_rfl⟩
theorem c2_1_1_0 : C20 1 1 := fun _ _ _ _ _ _ _ _ _ _ _ => ⟨by kernel_rfl, by kernel_rfl, by kernel_rfl⟩
theorem c2_1_2_0 : C20 1 2 := fun _ _ _ _ _ _ _ _ _ _ _ => ⟨by kernel_rfl, by kernel_rfl, by kernel_rfl⟩
theorem c2_1_3_0 : C20 1 3 := fun _ _ _ _ _ _ _ _ _ _ _ => ⟨by kernel_rfl, by kernel_rfl, by kernel_rfl⟩
theorem c2_1_5_0 : C20 1 5 := fun _ _ _ _ _ _ _ _ _ _ _ => ⟨by kernel_rfl, by kernel_rfl, by kernel_rfl⟩
theorem c2_1_6_0 : C20 1 6 := fun _ _ _ _ _ _ _ _ _ _ _ => ⟨by kernel_rfl, by kernel_rfl, by kernel_rfl⟩
theorem c2_1_7_0 : C20 1 7 := fun _ _ _ _ _ _ _ _ _ _ _ => ⟨by kernel_rfl, by kernel_rfl, by kernel_rfl⟩
theorem c2_1_8_0 : C20 1 8 := fun _ _ _ _ _ _ _ _ _ _ _ => ⟨by kernel_rfl, by kernel_rfl, by kernel_rfl⟩
theorem c2_1_9_0 : C20 1 9 := fun _ _ _ _ _ _ _ _ _ _ _ => ⟨by kernel_rfl, by kernel_rfl, by kernel_rfl⟩
theorem c2_1_10_0 : C20 1 10 := fun _ _ _ _ _ _ _ _ _ _ _ => ⟨by kernel_rfl, by kernel_rfl, by kernel_rfl⟩
theorem c2_1_11_0 : C20 1 11 := fun _ _ _ _ _ _ _ _ _ _ _ => ⟨by kernel_rfl, by kernel_rfl, by kernel_rfl⟩
theorem c2_1_4_0 : C2m0 1 4 := fun _ _ _ _ _ _ _ _ _ _ _ => ⟨by kernel_rfl, by kernel_rfl, by kernel_rfl⟩
theorem c2_1_0_1 : C21 1 0 := fun _ _ _ _ _ _ _ _ _ _ _ _ => ⟨by kernel_rfl, by kernel_rfl, by kernel_rfl⟩
theorem c2_1_1_1 : C21 1 1 := fun _ _ _ _ _ _ _ _ _ _ _ _ => ⟨by kernel_rfl, by kernel_rfl, by kernel_rfl⟩
theorem c2_1_2_1 : C21 1 2 := fun _ _ _ _ _ _ _ _ _ _ _ _ => ⟨by kernel_rfl, by kernel_rfl, by kernel_rfl⟩
theorem c2_1_3_1 : C21 1 3 := fun _ _ _ _ _ _ _ _ _ _ _ _ => ⟨by kernel_rfl, by kernel_rfl, by kernel_rfl⟩
theorem c2_1_5_1 : C21 1 5 := fun _ _ _ _ _ _ _ _ _ _ _ _ => ⟨by kernel_rfl, by kernel_rfl, by kernel_rfl⟩
theorem c2_1_6_1 : C21 1 6 := fun _ _ _ _ _ _ _ _ _ _ _ _ => ⟨by kernel_rfl, by kernel_rfl, by kernel_rfl⟩
theorem c2_1_7_1 : C21 1 7 := fun _ _ _ _ _ _ _ _ _ _ _ _ => ⟨by kernel_rfl, by kernel_rfl, by kernel_rfl⟩
theorem c2_1_8_1 : C21 1 8 := fun _ _ _ _ _ _ _ _ _ _ _ _ => ⟨by kernel_rfl, by kernel_rfl, by kernel_rfl⟩
theorem c2_1_9_1 : C21 1 9 := fun _ _ _ _ _ _ _ _ _ _ _ _ => ⟨by kernel_rfl, by kernel_rfl, by kernel_rfl⟩
theorem c2_1_10_1 : C21 1 10 := fun _ _ _ _ _ _ _ _ _ _ _ _ => ⟨by kernel_rfl, by kernel_rfl, by kernel_rfl⟩
theorem c2_1_11_1 : C21 1 11 := fun _ _ _ _ _ _ _ _ _ _ _ _ => ⟨by kernel_rfl, by kernel_rfl, by kernel_rfl⟩
theorem c2_1_4_1 : C2m1 1 4 := fun _ _ _ _ _ _ _ _ _ _ _ _ => ⟨by kernel_rfl, by kernel_rfl, by kernel_rfl⟩
end Go.Proofs.YthopphfehgdocaaGreatDoor
