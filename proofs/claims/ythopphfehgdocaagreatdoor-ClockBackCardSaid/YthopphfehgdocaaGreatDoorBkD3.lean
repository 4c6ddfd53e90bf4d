import Derived.Test.YthopphfehgdocaaGreatDoorBk3
namespace Go.Proofs.YthopphfehgdocaaGreatDoor
open Go Go.RowKit Go.Ev Go.Proofs Go.Shelf
set_option linter.unusedSimpArgs false
set_option linter.unusedVariables false
theorem c2_3_0_0 : C20 3 0 := fun _ _ _ _ _ _ _ _ _ _ _ => ⟨by kernel_rfl, by kernel_rfl, by kernel_rfl⟩
theorem c2_3_1_0 : C20 3 1 := fun _ _ _ _ _ _ _ _ _ _ _ => ⟨by kernel_rfl, by kernel_rfl, by kernel_rfl⟩
theorem c2_3_2_0 : C20 3 2 := fun _ _ _ _ _ _ _ _ _ _ _ => ⟨by kernel_rfl, by kernel_rfl, by kernel_rfl⟩
theorem c2_3_3_0 : C20 3 3 := fun _ _ _ _ _ _ _ _ _ _ _ => ⟨by kernel_rfl, by kernel_rfl, by kernel_rfl⟩
theorem c2_3_5_0 : C20 3 5 := fun _ _ _ _ _ _ _ _ _ _ _ => ⟨by kernel_rfl, by kernel_rfl, by kernel_rfl⟩
theorem c2_3_6_0 : C20 3 6 := fun _ _ _ _ _ _ _ _ _ _ _ => ⟨by kernel_rfl, by kernel_rfl, by kernel_rfl⟩
theorem c2_3_7_0 : C20 3 7 := fun _ _ _ _ _ _ _ _ _ _ _ => ⟨by kernel_rfl, by kernel_rfl, by kernel_rfl⟩
theorem c2_3_8_0 : C20 3 8 := fun _ _ _ _ _ _ _ _ _ _ _ => ⟨by kernel_rfl, by kernel_rfl, by kernel_rfl⟩
theorem c2_3_9_0 : C20 3 9 := fun _ _ _ _ _ _ _ _ _ _ _ => ⟨by kernel_rfl, by kernel_rfl, by kernel_rfl⟩
theorem c2_3_10_0 : C20 3 10 := fun _ _ _ _ _ _ _ _ _ _ _ => ⟨by kernel_rfl, by kernel_rfl, by kernel_rfl⟩
theorem c2_3_11_0 : C20 3 11 := fun _ _ _ _ _ _ _ _ _ _ _ => ⟨by kernel_rfl, by kernel_rfl, by kernel_rfl⟩
theorem c2_3_4_0 : C2m0 3 4 := fun _ _ _ _ _ _ _ _ _ _ _ => ⟨by kernel_rfl, by kernel_rfl, by kernel_rfl⟩
theorem c2_3_0_1 : C21 3 0 := fun _ _ _ _ _ _ _ _ _ _ _ _ => ⟨by kernel_rfl, by kernel_rfl, by kernel_rfl⟩
theorem c2_3_1_1 : C21 3 1 := fun _ _ _ _ _ _ _ _ _ _ _ _ => ⟨by kernel_rfl, by kernel_rfl, by kernel_rfl⟩
theorem c2_3_2_1 : C21 3 2 := fun _ _ _ _ _ _ _ _ _ _ _ _ => ⟨by kernel_rfl, by kernel_rfl, by kernel_rfl⟩
theorem c2_3_3_1 : C21 3 3 := fun _ _ _ _ _ _ _ _ _ _ _ _ => ⟨by kernel_rfl, by kernel_rfl, by kernel_rfl⟩
theorem c2_3_5_1 : C21 3 5 := fun _ _ _ _ _ _ _ _ _ _ _ _ => ⟨by kernel_rfl, by kernel_rfl, by kernel_rfl⟩
theorem c2_3_6_1 : C21 3 6 := fun _ _ _ _ _ _ _ _ _ _ _ _ => ⟨by kernel_rfl, by kernel_rfl, by kernel_rfl⟩
theorem c2_3_7_1 : C21 3 7 := fun _ _ _ _ _ _ _ _ _ _ _ _ => ⟨by kernel_rfl, by kernel_rfl, by kernel_rfl⟩
theorem c2_3_8_1 : C21 3 8 := fun _ _ _ _ _ _ _ _ _ _ _ _ => ⟨by kernel_rfl, by kernel_rfl, by kernel_rfl⟩
theorem c2_3_9_1 : C21 3 9 := fun _ _ _ _ _ _ _ _ _ _ _ _ => ⟨by kernel_rfl, by kernel_rfl, by kernel_rfl⟩
theorem c2_3_10_1 : C21 3 10 := fun _ _ _ _ _ _ _ _ _ _ _ _ => ⟨by kernel_rfl, by kernel_rfl, by kernel_rfl⟩
theorem c2_3_11_1 : C21 3 11 := fun _ _ _ _ _ _ _ _ _ _ _ _ => ⟨by kernel_rfl, by kernel_rfl, by kernel_rfl⟩
theorem c2_3_4_1 : C2m1 3 4 := fun _ _ _ _ _ _ _ _ _ _ _ _ => ⟨by kernel_rfl, by kernel_rfl, by kernel_rfl⟩
end Go.Proofs.YthopphfehgdocaaGreatDoor
