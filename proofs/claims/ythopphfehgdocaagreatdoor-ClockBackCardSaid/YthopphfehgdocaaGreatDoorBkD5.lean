import Derived.Test.YthopphfehgdocaaGreatDoorBk3
namespace Go.Proofs.YthopphfehgdocaaGreatDoor
open Go Go.RowKit Go.Ev Go.Proofs Go.Shelf
set_option linter.unusedSimpArgs false
set_option linter.unusedVariables false
theorem c2_5_0_0 : C20 5 0 := fun _ _ _ _ _ _ _ _ _ _ _ => ⟨by kernel_rfl, by kernel_rfl, by kernel_rfl⟩
theorem c2_5_1_0 : C20 5 1 := fun _ _ _ _ _ _ _ _ _ _ _ => ⟨by kernel_rfl, by kernel_rfl, by kernel_rfl⟩
theorem c2_5_2_0 : C20 5 2 := fun _ _ _ _ _ _ _ _ _ _ _ => ⟨by kernel_rfl, by kernel_rfl, by kernel_rfl⟩
theorem c2_5_3_0 : C20 5 3 := fun _ _ _ _ _ _ _ _ _ _ _ => ⟨by kernel_rfl, by kernel_rfl, by kernel_rfl⟩
theorem c2_5_5_0 : C20 5 5 := fun _ _ _ _ _ _ _ _ _ _ _ => ⟨by kernel_rfl, by kernel_rfl, by kernel_rfl⟩
theorem c2_5_6_0 : C20 5 6 := fun _ _ _ _ _ _ _ _ _ _ _ => ⟨by kernel_rfl, by kernel_rfl, by kernel_rfl⟩
theorem c2_5_7_0 : C20 5 7 := fun _ _ _ _ _ _ _ _ _ _ _ => ⟨by kernel_rfl, by kernel_rfl, by kernel_rfl⟩
theorem c2_5_8_0 : C20 5 8 := fun _ _ _ _ _ _ _ _ _ _ _ => ⟨by kernel_rfl, by kernel_rfl, by kernel_rfl⟩
theorem c2_5_9_0 : C20 5 9 := fun _ _ _ _ _ _ _ _ _ _ _ => ⟨by kernel_rfl, by kernel_rfl, by kernel_rfl⟩
theorem c2_5_10_0 : C20 5 10 := fun _ _ _ _ _ _ _ _ _ _ _ => ⟨by kernel_rfl, by kernel_rfl, by kernel_rfl⟩
theorem c2_5_11_0 : C20 5 11 := fun _ _ _ _ _ _ _ _ _ _ _ => ⟨by kernel_rfl, by kernel_rfl, by kernel_rfl⟩
theorem c2_5_4_0 : C2m0 5 4 := fun _ _ _ _ _ _ _ _ _ _ _ => ⟨by kernel_rfl, by kernel_rfl, by kernel_rfl⟩
theorem c2_5_0_1 : C21 5 0 := fun _ _ _ _ _ _ _ _ _ _ _ _ => ⟨by kernel_rfl, by kernel_rfl, by kernel_rfl⟩
theorem c2_5_1_1 : C21 5 1 := fun _ _ _ _ _ _ _ _ _ _ _ _ => ⟨by kernel_rfl, by kernel_rfl, by kernel_rfl⟩
theorem c2_5_2_1 : C21 5 2 := fun _ _ _ _ _ _ _ _ _ _ _ _ => ⟨by kernel_rfl, by kernel_rfl, by kernel_rfl⟩
theorem c2_5_3_1 : C21 5 3 := fun _ _ _ _ _ _ _ _ _ _ _ _ => ⟨by kernel_rfl, by kernel_rfl, by kernel_rfl⟩
theorem c2_5_5_1 : C21 5 5 := fun _ _ _ _ _ _ _ _ _ _ _ _ => ⟨by kernel_rfl, by kernel_rfl, by kernel_rfl⟩
theorem c2_5_6_1 : C21 5 6 := fun _ _ _ _ _ _ _ _ _ _ _ _ => ⟨by kernel_rfl, by kernel_rfl, by kernel_rfl⟩
theorem c2_5_7_1 : C21 5 7 := fun _ _ _ _ _ _ _ _ _ _ _ _ => ⟨by kernel_rfl, by kernel_rfl, by kernel_rfl⟩
theorem c2_5_8_1 : C21 5 8 := fun _ _ _ _ _ _ _ _ _ _ _ _ => ⟨by kernel_rfl, by kernel_rfl, by kernel_rfl⟩
theorem c2_5_9_1 : C21 5 9 := fun _ _ _ _ _ _ _ _ _ _ _ _ => ⟨by kernel_rfl, by kernel_rfl, by kernel_rfl⟩
theorem c2_5_10_1 : C21 5 10 := fun _ _ _ _ _ _ _ _ _ _ _ _ => ⟨by kernel_rfl, by kernel_rfl, by kernel_rfl⟩
theorem c2_5_11_1 : C21 5 11 := fun _ _ _ _ _ _ _ _ _ _ _ _ => ⟨by kernel_rfl, by kernel_rfl, by kernel_rfl⟩
theorem c2_5_4_1 : C2m1 5 4 := fun _ _ _ _ _ _ _ _ _ _ _ _ => ⟨by kernel_rfl, by kernel_rfl, by kernel_rfl⟩
end Go.Proofs.YthopphfehgdocaaGreatDoor
