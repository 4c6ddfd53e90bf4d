import Derived.Test.YthopphfehgdocaaGreatDoorBk3
namespace Go.Proofs.YthopphfehgdocaaGreatDoor
open Go Go.RowKit Go.Ev Go.Proofs Go.Shelf
set_option linter.unusedSimpArgs false
set_option linter.unusedVariables false
theorem c2_2_0_0 : C20 2 0 := fun _ _ _ _ _ _ _ _ _ _ _ => ⟨by kernel_rfl, by kernel_rfl, by kernel_rfl⟩
theorem c2_2_1_0 : C20 2 1 := fun _ _ _ _ _ _ _ _ _ _ _ => ⟨by kernel_rfl, by kernel_rfl, by kernel_rfl⟩
theorem c2_2_2_0 : C20 2 2 := fun _ _ _ _ _ _ _ _ _ _ _ => ⟨by kernel_rfl, by kernel_rfl, by kernel_rfl⟩
theorem c2_2_3_0 : C20 2 3 := fun _ _ _ _ _ _ _ _ _ _ _ => ⟨by kernel_rfl, by kernel_rfl, by kernel_rfl⟩
theorem c2_2_5_0 : C20 2 5 := fun _ _ _ _ _ _ _ _ _ _ _ => ⟨by kernel_rfl, by kernel_rfl, by kernel_rfl⟩
theorem c2_2_6_0 : C20 2 6 := fun _ _ _ _ _ _ _ _ _ _ _ => ⟨by kernel_rfl, by kernel_rfl, by kernel_rfl⟩
theorem c2_2_7_0 : C20 2 7 := fun _ _ _ _ _ _ _ _ _ _ _ => ⟨by kernel_rfl, by kernel_rfl, by kernel_rfl⟩
theorem c2_2_8_0 : C20 2 8 := fun _ _ _ _ _ _ _ _ _ _ _ => ⟨by kernel_rfl, by kernel_rfl, by kernel_rfl⟩
theorem c2_2_9_0 : C20 2 9 := fun _ _ _ _ _ _ _ _ _ _ _ => ⟨by kernel_rfl, by kernel_rfl, by kernel_rfl⟩
theorem c2_2_10_0 : C20 2 10 := fun _ _ _ _ _ _ _ _ _ _ _ => ⟨by kernel_rfl, by kernel_rfl, by kernel_rfl⟩
theorem c2_2_11_0 : C20 2 11 := fun _ _ _ _ _ _ _ _ _ _ _ => ⟨by kernel_rfl, by kernel_rfl, by kernel_rfl⟩
theorem c2_2_4_0 : C2m0 2 4 := fun _ _ _ _ _ _ _ _ _ _ _ => ⟨by kernel_rfl, by kernel_rfl, by kernel_rfl⟩
theorem c2_2_0_1 : C21 2 0 := fun _ _ _ _ _ _ _ _ _ _ _ _ => ⟨by kernel_rfl, by kernel_rfl, by kernel_rfl⟩
theorem c2_2_1_1 : C21 2 1 := fun _ _ _ _ _ _ _ _ _ _ _ _ => ⟨by kernel_rfl, by kernel_rfl, by kernel_rfl⟩
theorem c2_2_2_1 : C21 2 2 := fun _ _ _ _ _ _ _ _ _ _ _ _ => ⟨by kernel_rfl, by kernel_rfl, by kernel_rfl⟩
theorem c2_2_3_1 : C21 2 3 := fun _ _ _ _ _ _ _ _ _ _ _ _ => ⟨by kernel_rfl, by kernel_rfl, by kernel_rfl⟩
theorem c2_2_5_1 : C21 2 5 := fun _ _ _ _ _ _ _ _ _ _ _ _ => ⟨by kernel_rfl, by kernel_rfl, by kernel_rfl⟩
theorem c2_2_6_1 : C21 2 6 := fun _ _ _ _ _ _ _ _ _ _ _ _ => ⟨by kernel_rfl, by kernel_rfl, by kernel_rfl⟩
theorem c2_2_7_1 : C21 2 7 := fun _ _ _ _ _ _ _ _ _ _ _ _ => ⟨by kernel_rfl, by kernel_rfl, by kernel_rfl⟩
theorem c2_2_8_1 : C21 2 8 := fun _ _ _ _ _ _ _ _ _ _ _ _ => ⟨by kernel_rfl, by kernel_rfl, by kernel_rfl⟩
theorem c2_2_9_1 : C21 2 9 := fun _ _ _ _ _ _ _ _ _ _ _ _ => ⟨by kernel_rfl, by kernel_rfl, by kernel_rfl⟩
theorem c2_2_10_1 : C21 2 10 := fun _ _ _ _ _ _ _ _ _ _ _ _ => ⟨by kernel_rfl, by kernel_rfl, by kernel_rfl⟩
theorem c2_2_11_1 : C21 2 11 := fun _ _ _ _ _ _ _ _ _ _ _ _ => ⟨by kernel_rfl, by kernel_rfl, by kernel_rfl⟩
theorem c2_2_4_1 : C2m1 2 4 := fun _ _ _ _ _ _ _ _ _ _ _ _ => ⟨by kernel_rfl, by kernel_rfl, by kernel_rfl⟩
end Go.Proofs.YthopphfehgdocaaGreatDoor
