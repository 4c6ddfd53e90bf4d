import Derived.Test.YthopphfehgdocaaGreatDoorRoadB
namespace Go.Proofs.YthopphfehgdocaaGreatDoor
open Go Go.RowKit Go.Ev Go.Proofs Go.Shelf
set_option linter.unusedSimpArgs false
set_option linter.unusedVariables false
structure bHyp (s : Int) : Prop where
  h0 : -62135596800 ≤ s
  h1 : s ≤ 253402300799
  hm : b90 s < 10
theorem bF10 {s : Int} (H : bHyp s) : b10 s = Clk.fo s := rfl
theorem bF13 {s : Int} (H : bHyp s) : b13 s = Clk.fo s := by
  have := H.h0; have := H.h1
  unfold b13
  rw [bF10 H]
  exact Clk.fround_fo _ (by omega)
theorem bF25 {s : Int} (H : bHyp s) : b25 s = Clk.fo ((s).natAbs : Int) := by
  have := H.h0; have := H.h1
  unfold b25 b24 b23 b22 b17
  rw [bF13 H]
  exact Clk.abs_fo _ (by omega)
theorem bE30 {s : Int} (H : bHyp s) : b30 s = s := by
  have := H.h0; have := H.h1
  unfold b30
  rw [bF13 H]
  exact Clk.f2i_fo _ (by omega)
theorem bR30 {s : Int} (H : bHyp s) : -62135596800 ≤ b30 s ∧ b30 s ≤ 253402300799 := by
  have := bE30 H
  have := H.h0; have := H.h1
  omega
theorem bE31 {s : Int} (H : bHyp s) : b31 s = (b30 s) / 86400 := rfl
theorem bR31 {s : Int} (H : bHyp s) : -719162 ≤ b31 s ∧ b31 s ≤ 2932896 := by
  have := bE31 H
  have := bR30 H
  omega
theorem bE32 {s : Int} (H : bHyp s) : b32 s = (b31 s) := by
  have := bR31 H
  unfold b32
  exact wrap_id _ (by omega) (by omega)
theorem bR32 {s : Int} (H : bHyp s) : -719162 ≤ b32 s ∧ b32 s ≤ 2932896 := by
  have := bE32 H
  have := bR31 H
  omega
theorem bE56 {s : Int} (H : bHyp s) : b56 s = (b32 s) + 719468 := rfl
theorem bR56 {s : Int} (H : bHyp s) : 306 ≤ b56 s ∧ b56 s ≤ 3652364 := by
  have := bE56 H
  have := bR32 H
  omega
theorem bE57 {s : Int} (H : bHyp s) : b57 s = (b56 s) := by
  have := bR56 H
  unfold b57
  exact wrap_id _ (by omega) (by omega)
theorem bR57 {s : Int} (H : bHyp s) : 306 ≤ b57 s ∧ b57 s ≤ 3652364 := by
  have := bE57 H
  have := bR56 H
  omega
theorem bE58 {s : Int} (H : bHyp s) : b58 s = (b57 s) % 146097 := rfl
theorem bR58 {s : Int} (H : bHyp s) : 0 ≤ b58 s ∧ b58 s ≤ 146096 := by
  have := bE58 H
  have := bR57 H
  omega
theorem bE59 {s : Int} (H : bHyp s) : b59 s = (b58 s) / 1460 := by
  have := bR58 H
  exact Int.tdiv_eq_ediv_of_nonneg (by omega)
theorem bR59 {s : Int} (H : bHyp s) : 0 ≤ b59 s ∧ b59 s ≤ 100 := by
  have := bE59 H
  have := bR58 H
  omega
theorem bE60 {s : Int} (H : bHyp s) : b60 s = (b59 s) := by
  have := bR59 H
  unfold b60
  exact wrap_id _ (by omega) (by omega)
theorem bR60 {s : Int} (H : bHyp s) : 0 ≤ b60 s ∧ b60 s ≤ 100 := by
  have := bE60 H
  have := bR59 H
  omega
theorem bE61 {s : Int} (H : bHyp s) : b61 s = (b58 s) - (b60 s) := rfl
theorem bR61 {s : Int} (H : bHyp s) : -100 ≤ b61 s ∧ b61 s ≤ 146096 := by
  have := bE61 H
  have := bR58 H
  have := bR60 H
  omega
theorem bE62 {s : Int} (H : bHyp s) : b62 s = (b61 s) := by
  have := bR61 H
  unfold b62
  exact wrap_id _ (by omega) (by omega)
theorem bR62 {s : Int} (H : bHyp s) : -100 ≤ b62 s ∧ b62 s ≤ 146096 := by
  have := bE62 H
  have := bR61 H
  omega
theorem bE63 {s : Int} (H : bHyp s) : b63 s = (b58 s) / 36524 := by
  have := bR58 H
  exact Int.tdiv_eq_ediv_of_nonneg (by omega)
theorem bR63 {s : Int} (H : bHyp s) : 0 ≤ b63 s ∧ b63 s ≤ 4 := by
  have := bE63 H
  have := bR58 H
  omega
theorem bE64 {s : Int} (H : bHyp s) : b64 s = (b63 s) := by
  have := bR63 H
  unfold b64
  exact wrap_id _ (by omega) (by omega)
theorem bR64 {s : Int} (H : bHyp s) : 0 ≤ b64 s ∧ b64 s ≤ 4 := by
  have := bE64 H
  have := bR63 H
  omega
theorem bE65 {s : Int} (H : bHyp s) : b65 s = (b62 s) + (b64 s) := rfl
theorem bR65 {s : Int} (H : bHyp s) : -100 ≤ b65 s ∧ b65 s ≤ 146100 := by
  have := bE65 H
  have := bR62 H
  have := bR64 H
  omega
theorem bE66 {s : Int} (H : bHyp s) : b66 s = (b65 s) := by
  have := bR65 H
  unfold b66
  exact wrap_id _ (by omega) (by omega)
theorem bR66 {s : Int} (H : bHyp s) : -100 ≤ b66 s ∧ b66 s ≤ 146100 := by
  have := bE66 H
  have := bR65 H
  omega
theorem bE67 {s : Int} (H : bHyp s) : b67 s = (b58 s) / 146096 := by
  have := bR58 H
  exact Int.tdiv_eq_ediv_of_nonneg (by omega)
theorem bR67 {s : Int} (H : bHyp s) : 0 ≤ b67 s ∧ b67 s ≤ 1 := by
  have := bE67 H
  have := bR58 H
  omega
theorem bE68 {s : Int} (H : bHyp s) : b68 s = (b67 s) := by
  have := bR67 H
  unfold b68
  exact wrap_id _ (by omega) (by omega)
theorem bR68 {s : Int} (H : bHyp s) : 0 ≤ b68 s ∧ b68 s ≤ 1 := by
  have := bE68 H
  have := bR67 H
  omega
theorem bE69 {s : Int} (H : bHyp s) : b69 s = (b66 s) - (b68 s) := rfl
theorem bR69 {s : Int} (H : bHyp s) : -101 ≤ b69 s ∧ b69 s ≤ 146100 := by
  have := bE69 H
  have := bR66 H
  have := bR68 H
  omega
theorem bE70 {s : Int} (H : bHyp s) : b70 s = (b69 s) := by
  have := bR69 H
  unfold b70
  exact wrap_id _ (by omega) (by omega)
theorem bR70 {s : Int} (H : bHyp s) : 0 ≤ b70 s ∧ b70 s ≤ 146100 := by
  have := bE57 H
  have := bE58 H
  have := bE59 H
  have := bE60 H
  have := bE61 H
  have := bE62 H
  have := bE63 H
  have := bE64 H
  have := bE65 H
  have := bE66 H
  have := bE67 H
  have := bE68 H
  have := bE69 H
  have := bE70 H
  have := bR58 H
  omega
theorem bE71 {s : Int} (H : bHyp s) : b71 s = (b70 s) / 365 := by
  have := bR70 H
  exact Int.tdiv_eq_ediv_of_nonneg (by omega)
theorem bR71 {s : Int} (H : bHyp s) : 0 ≤ b71 s ∧ b71 s ≤ 400 := by
  have := bE71 H
  have := bR70 H
  omega
theorem bE72 {s : Int} (H : bHyp s) : b72 s = (b71 s) := by
  have := bR71 H
  unfold b72
  exact wrap_id _ (by omega) (by omega)
theorem bY {s : Int} (H : bHyp s) : b72 s = Clk.dateY (b32 s) := by
  have := bE56 H
  have := bE57 H
  have := bE58 H
  have := bE59 H
  have := bE60 H
  have := bE61 H
  have := bE62 H
  have := bE63 H
  have := bE64 H
  have := bE65 H
  have := bE66 H
  have := bE67 H
  have := bE68 H
  have := bE69 H
  have := bE70 H
  have := bE71 H
  have := bE72 H
  have := bR58 H
  unfold Clk.dateY Clk.dateD
  omega
theorem bR72 {s : Int} (H : bHyp s) : 0 ≤ b72 s ∧ b72 s ≤ 399 := by
  have := bY H
  have := Clk.dateY_spec (b32 s)
  omega
theorem bE73 {s : Int} (H : bHyp s) : b73 s = 365 * (b72 s) := rfl
theorem bR73 {s : Int} (H : bHyp s) : 0 ≤ b73 s ∧ b73 s ≤ 145635 := by
  have := bE73 H
  have := bR72 H
  omega
theorem bE74 {s : Int} (H : bHyp s) : b74 s = (b73 s) := by
  have := bR73 H
  unfold b74
  exact wrap_id _ (by omega) (by omega)
theorem bR74 {s : Int} (H : bHyp s) : 0 ≤ b74 s ∧ b74 s ≤ 145635 := by
  have := bE74 H
  have := bR73 H
  omega
theorem bE75 {s : Int} (H : bHyp s) : b75 s = (b72 s) / 4 := by
  have := bR72 H
  exact Int.tdiv_eq_ediv_of_nonneg (by omega)
theorem bR75 {s : Int} (H : bHyp s) : 0 ≤ b75 s ∧ b75 s ≤ 99 := by
  have := bE75 H
  have := bR72 H
  omega
theorem bE76 {s : Int} (H : bHyp s) : b76 s = (b75 s) := by
  have := bR75 H
  unfold b76
  exact wrap_id _ (by omega) (by omega)
theorem bR76 {s : Int} (H : bHyp s) : 0 ≤ b76 s ∧ b76 s ≤ 99 := by
  have := bE76 H
  have := bR75 H
  omega
theorem bE77 {s : Int} (H : bHyp s) : b77 s = (b74 s) + (b76 s) := rfl
theorem bR77 {s : Int} (H : bHyp s) : 0 ≤ b77 s ∧ b77 s ≤ 145734 := by
  have := bE77 H
  have := bR74 H
  have := bR76 H
  omega
theorem bE78 {s : Int} (H : bHyp s) : b78 s = (b77 s) := by
  have := bR77 H
  unfold b78
  exact wrap_id _ (by omega) (by omega)
theorem bR78 {s : Int} (H : bHyp s) : 0 ≤ b78 s ∧ b78 s ≤ 145734 := by
  have := bE78 H
  have := bR77 H
  omega
theorem bE79 {s : Int} (H : bHyp s) : b79 s = (b72 s) / 100 := by
  have := bR72 H
  exact Int.tdiv_eq_ediv_of_nonneg (by omega)
theorem bR79 {s : Int} (H : bHyp s) : 0 ≤ b79 s ∧ b79 s ≤ 3 := by
  have := bE79 H
  have := bR72 H
  omega
theorem bE80 {s : Int} (H : bHyp s) : b80 s = (b79 s) := by
  have := bR79 H
  unfold b80
  exact wrap_id _ (by omega) (by omega)
theorem bR80 {s : Int} (H : bHyp s) : 0 ≤ b80 s ∧ b80 s ≤ 3 := by
  have := bE80 H
  have := bR79 H
  omega
theorem bE81 {s : Int} (H : bHyp s) : b81 s = (b78 s) - (b80 s) := rfl
theorem bR81 {s : Int} (H : bHyp s) : -3 ≤ b81 s ∧ b81 s ≤ 145734 := by
  have := bE81 H
  have := bR78 H
  have := bR80 H
  omega
theorem bE82 {s : Int} (H : bHyp s) : b82 s = (b81 s) := by
  have := bR81 H
  unfold b82
  exact wrap_id _ (by omega) (by omega)
theorem bR82 {s : Int} (H : bHyp s) : -3 ≤ b82 s ∧ b82 s ≤ 145734 := by
  have := bE82 H
  have := bR81 H
  omega
theorem bE83 {s : Int} (H : bHyp s) : b83 s = (b58 s) - (b82 s) := rfl
theorem bR83 {s : Int} (H : bHyp s) : -145734 ≤ b83 s ∧ b83 s ≤ 146099 := by
  have := bE83 H
  have := bR58 H
  have := bR82 H
  omega
theorem bE84 {s : Int} (H : bHyp s) : b84 s = (b83 s) := by
  have := bR83 H
  unfold b84
  exact wrap_id _ (by omega) (by omega)
theorem bDoy {s : Int} (H : bHyp s) : b84 s = Clk.dateDoy (b32 s) := by
  have := bE73 H
  have := bE74 H
  have := bE75 H
  have := bE76 H
  have := bE77 H
  have := bE78 H
  have := bE79 H
  have := bE80 H
  have := bE81 H
  have := bE82 H
  have := bE83 H
  have := bE84 H
  have := bY H
  have := bE56 H; have := bE57 H; have := bE58 H
  have hd : Clk.dateD (b32 s) = (b32 s + 719468) % 146097 := rfl
  unfold Clk.dateDoy
  omega
theorem bR84 {s : Int} (H : bHyp s) : 0 ≤ b84 s ∧ b84 s ≤ 365 := by
  have := bDoy H
  have := Clk.dateY_spec (b32 s)
  omega
theorem bE85 {s : Int} (H : bHyp s) : b85 s = 5 * (b84 s) := rfl
theorem bR85 {s : Int} (H : bHyp s) : 0 ≤ b85 s ∧ b85 s ≤ 1825 := by
  have := bE85 H
  have := bR84 H
  omega
theorem bE86 {s : Int} (H : bHyp s) : b86 s = (b85 s) := by
  have := bR85 H
  unfold b86
  exact wrap_id _ (by omega) (by omega)
theorem bR86 {s : Int} (H : bHyp s) : 0 ≤ b86 s ∧ b86 s ≤ 1825 := by
  have := bE86 H
  have := bR85 H
  omega
theorem bE87 {s : Int} (H : bHyp s) : b87 s = (b86 s) + 2 := rfl
theorem bR87 {s : Int} (H : bHyp s) : 2 ≤ b87 s ∧ b87 s ≤ 1827 := by
  have := bE87 H
  have := bR86 H
  omega
theorem bE88 {s : Int} (H : bHyp s) : b88 s = (b87 s) := by
  have := bR87 H
  unfold b88
  exact wrap_id _ (by omega) (by omega)
theorem bR88 {s : Int} (H : bHyp s) : 2 ≤ b88 s ∧ b88 s ≤ 1827 := by
  have := bE88 H
  have := bR87 H
  omega
theorem bE89 {s : Int} (H : bHyp s) : b89 s = (b88 s) / 153 := by
  have := bR88 H
  exact Int.tdiv_eq_ediv_of_nonneg (by omega)
theorem bR89 {s : Int} (H : bHyp s) : 0 ≤ b89 s ∧ b89 s ≤ 11 := by
  have := bE89 H
  have := bR88 H
  omega
theorem bE90 {s : Int} (H : bHyp s) : b90 s = (b89 s) := by
  have := bR89 H
  unfold b90
  exact wrap_id _ (by omega) (by omega)
theorem bM {s : Int} (H : bHyp s) : b90 s = Clk.dateM (b32 s) := by
  have := bE85 H
  have := bE86 H
  have := bE87 H
  have := bE88 H
  have := bE89 H
  have := bE90 H
  have := bDoy H
  unfold Clk.dateM
  omega
theorem bR90 {s : Int} (H : bHyp s) : 0 ≤ b90 s ∧ b90 s ≤ 9 := by
  have := bM H
  have := Clk.date_ranges (b32 s)
  have := H.hm
  omega
theorem bF100 {s : Int} (H : bHyp s) : b100 s = some (Clk.fo 0) := by
  have := H.h0; have := H.h1
  unfold b100
  rw [bF10 H, bF13 H]
  exact Clk.sub_fo_self _ (by omega)
theorem bE102 {s : Int} (H : bHyp s) : b102 s = (b30 s) % 86400 := rfl
theorem bR102 {s : Int} (H : bHyp s) : 0 ≤ b102 s ∧ b102 s ≤ 86399 := by
  have := bE102 H
  have := bR30 H
  omega
theorem bE103 {s : Int} (H : bHyp s) : b103 s = (b102 s) % 60 := by
  have := bR102 H
  exact Int.tmod_eq_emod_of_nonneg (by omega)
theorem bR103 {s : Int} (H : bHyp s) : 0 ≤ b103 s ∧ b103 s ≤ 59 := by
  have := bE103 H
  have := bR102 H
  omega
theorem bF104 {s : Int} (H : bHyp s) : b104 s = Clk.fo (b103 s) := rfl
theorem bF105 {s : Int} (H : bHyp s) : b105 s = Clk.fo 0 := by
  unfold b105
  rw [bF100 H]
  rfl
theorem bF106 {s : Int} (H : bHyp s) : b106 s = some (Clk.fo ((b103 s) + 0)) := by
  have := bR103 H
  unfold b106
  rw [bF104 H, bF105 H]
  exact Clk.add_fo' _ _ (by omega) (by omega) (by omega)
theorem bE176 {s : Int} (H : bHyp s) : b176 s = (b57 s) / 146097 := rfl
theorem bR176 {s : Int} (H : bHyp s) : 0 ≤ b176 s ∧ b176 s ≤ 24 := by
  have := bE176 H
  have := bR57 H
  omega
theorem bE177 {s : Int} (H : bHyp s) : b177 s = (b176 s) := by
  have := bR176 H
  unfold b177
  exact wrap_id _ (by omega) (by omega)
theorem bR177 {s : Int} (H : bHyp s) : 0 ≤ b177 s ∧ b177 s ≤ 24 := by
  have := bE177 H
  have := bR176 H
  omega
theorem bE178 {s : Int} (H : bHyp s) : b178 s = (b177 s) * 400 := rfl
theorem bR178 {s : Int} (H : bHyp s) : 0 ≤ b178 s ∧ b178 s ≤ 9600 := by
  have := bE178 H
  have := bR177 H
  omega
theorem bE179 {s : Int} (H : bHyp s) : b179 s = (b178 s) := by
  have := bR178 H
  unfold b179
  exact wrap_id _ (by omega) (by omega)
theorem bR179 {s : Int} (H : bHyp s) : 0 ≤ b179 s ∧ b179 s ≤ 9600 := by
  have := bE179 H
  have := bR178 H
  omega
theorem bE180 {s : Int} (H : bHyp s) : b180 s = (b179 s) + (b72 s) := rfl
theorem bR180 {s : Int} (H : bHyp s) : 0 ≤ b180 s ∧ b180 s ≤ 9999 := by
  have := bE180 H
  have := bR179 H
  have := bR72 H
  omega
theorem bE181 {s : Int} (H : bHyp s) : b181 s = (b180 s) := by
  have := bR180 H
  unfold b181
  exact wrap_id _ (by omega) (by omega)
theorem bR181 {s : Int} (H : bHyp s) : 0 ≤ b181 s ∧ b181 s ≤ 9999 := by
  have := bE181 H
  have := bR180 H
  omega
theorem bF182 {s : Int} (H : bHyp s) : b182 s = Clk.fo (b181 s) := rfl
theorem bE198 {s : Int} (H : bHyp s) : b198 s = (b90 s) + 2 := rfl
theorem bR198 {s : Int} (H : bHyp s) : 2 ≤ b198 s ∧ b198 s ≤ 11 := by
  have := bE198 H
  have := bR90 H
  omega
theorem bE199 {s : Int} (H : bHyp s) : b199 s = (b198 s) := by
  have := bR198 H
  unfold b199
  exact wrap_id _ (by omega) (by omega)
theorem bR199 {s : Int} (H : bHyp s) : 2 ≤ b199 s ∧ b199 s ≤ 11 := by
  have := bE199 H
  have := bR198 H
  omega
theorem bF200 {s : Int} (H : bHyp s) : b200 s = Clk.fo (b199 s) := rfl
theorem bE216 {s : Int} (H : bHyp s) : b216 s = 153 * (b90 s) := rfl
theorem bR216 {s : Int} (H : bHyp s) : 0 ≤ b216 s ∧ b216 s ≤ 1377 := by
  have := bE216 H
  have := bR90 H
  omega
theorem bE217 {s : Int} (H : bHyp s) : b217 s = (b216 s) := by
  have := bR216 H
  unfold b217
  exact wrap_id _ (by omega) (by omega)
theorem bR217 {s : Int} (H : bHyp s) : 0 ≤ b217 s ∧ b217 s ≤ 1377 := by
  have := bE217 H
  have := bR216 H
  omega
theorem bE218 {s : Int} (H : bHyp s) : b218 s = (b217 s) + 2 := rfl
theorem bR218 {s : Int} (H : bHyp s) : 2 ≤ b218 s ∧ b218 s ≤ 1379 := by
  have := bE218 H
  have := bR217 H
  omega
theorem bE219 {s : Int} (H : bHyp s) : b219 s = (b218 s) := by
  have := bR218 H
  unfold b219
  exact wrap_id _ (by omega) (by omega)
theorem bR219 {s : Int} (H : bHyp s) : 2 ≤ b219 s ∧ b219 s ≤ 1379 := by
  have := bE219 H
  have := bR218 H
  omega
theorem bE220 {s : Int} (H : bHyp s) : b220 s = (b219 s) / 5 := by
  have := bR219 H
  exact Int.tdiv_eq_ediv_of_nonneg (by omega)
theorem bR220 {s : Int} (H : bHyp s) : 0 ≤ b220 s ∧ b220 s ≤ 275 := by
  have := bE220 H
  have := bR219 H
  omega
theorem bE221 {s : Int} (H : bHyp s) : b221 s = (b220 s) := by
  have := bR220 H
  unfold b221
  exact wrap_id _ (by omega) (by omega)
theorem bR221 {s : Int} (H : bHyp s) : 0 ≤ b221 s ∧ b221 s ≤ 275 := by
  have := bE221 H
  have := bR220 H
  omega
theorem bE222 {s : Int} (H : bHyp s) : b222 s = (b84 s) - (b221 s) := rfl
theorem bR222 {s : Int} (H : bHyp s) : -275 ≤ b222 s ∧ b222 s ≤ 365 := by
  have := bE222 H
  have := bR84 H
  have := bR221 H
  omega
theorem bE223 {s : Int} (H : bHyp s) : b223 s = (b222 s) := by
  have := bR222 H
  unfold b223
  exact wrap_id _ (by omega) (by omega)
theorem bR223 {s : Int} (H : bHyp s) : -275 ≤ b223 s ∧ b223 s ≤ 365 := by
  have := bE223 H
  have := bR222 H
  omega
theorem bE224 {s : Int} (H : bHyp s) : b224 s = (b223 s) + 1 := rfl
theorem bR224 {s : Int} (H : bHyp s) : -274 ≤ b224 s ∧ b224 s ≤ 366 := by
  have := bE224 H
  have := bR223 H
  omega
theorem bE225 {s : Int} (H : bHyp s) : b225 s = (b224 s) := by
  have := bR224 H
  unfold b225
  exact wrap_id _ (by omega) (by omega)
theorem bR225 {s : Int} (H : bHyp s) : -274 ≤ b225 s ∧ b225 s ≤ 366 := by
  have := bE225 H
  have := bR224 H
  omega
theorem bF226 {s : Int} (H : bHyp s) : b226 s = Clk.fo (b225 s) := rfl
theorem bE242 {s : Int} (H : bHyp s) : b242 s = (b102 s) / 3600 := by
  have := bR102 H
  exact Int.tdiv_eq_ediv_of_nonneg (by omega)
theorem bR242 {s : Int} (H : bHyp s) : 0 ≤ b242 s ∧ b242 s ≤ 23 := by
  have := bE242 H
  have := bR102 H
  omega
theorem bE243 {s : Int} (H : bHyp s) : b243 s = (b242 s) := by
  have := bR242 H
  unfold b243
  exact wrap_id _ (by omega) (by omega)
theorem bR243 {s : Int} (H : bHyp s) : 0 ≤ b243 s ∧ b243 s ≤ 23 := by
  have := bE243 H
  have := bR242 H
  omega
theorem bF244 {s : Int} (H : bHyp s) : b244 s = Clk.fo (b243 s) := rfl
theorem bE260 {s : Int} (H : bHyp s) : b260 s = (b102 s) / 60 := by
  have := bR102 H
  exact Int.tdiv_eq_ediv_of_nonneg (by omega)
theorem bR260 {s : Int} (H : bHyp s) : 0 ≤ b260 s ∧ b260 s ≤ 1439 := by
  have := bE260 H
  have := bR102 H
  omega
theorem bE261 {s : Int} (H : bHyp s) : b261 s = (b260 s) := by
  have := bR260 H
  unfold b261
  exact wrap_id _ (by omega) (by omega)
theorem bR261 {s : Int} (H : bHyp s) : 0 ≤ b261 s ∧ b261 s ≤ 1439 := by
  have := bE261 H
  have := bR260 H
  omega
theorem bE262 {s : Int} (H : bHyp s) : b262 s = (b261 s) % 60 := by
  have := bR261 H
  exact Int.tmod_eq_emod_of_nonneg (by omega)
theorem bR262 {s : Int} (H : bHyp s) : 0 ≤ b262 s ∧ b262 s ≤ 59 := by
  have := bE262 H
  have := bR261 H
  omega
theorem bF263 {s : Int} (H : bHyp s) : b263 s = Clk.fo (b262 s) := rfl
theorem bE279 {s : Int} (H : bHyp s) : b279 s = (b181 s) := by
  have := bR181 H
  unfold b279
  rw [bF182 H]
  exact Clk.f2i_fo _ (by omega)
theorem bR279 {s : Int} (H : bHyp s) : 0 ≤ b279 s ∧ b279 s ≤ 9999 := by
  have := bE279 H
  have := bR181 H
  omega
theorem bE287 {s : Int} (H : bHyp s) : b287 s = (b199 s) := by
  have := bR199 H
  unfold b287
  rw [bF200 H]
  exact Clk.f2i_fo _ (by omega)
theorem bR287 {s : Int} (H : bHyp s) : 2 ≤ b287 s ∧ b287 s ≤ 11 := by
  have := bE287 H
  have := bR199 H
  omega
theorem bE294 {s : Int} (H : bHyp s) : b294 s = (b225 s) := by
  have := bR225 H
  unfold b294
  rw [bF226 H]
  exact Clk.f2i_fo _ (by omega)
theorem bDay {s : Int} (H : bHyp s) : (b294 s) = Clk.dateDay (b32 s) := by
  have := bM H; have := bDoy H
  have := bE216 H
  have := bE217 H
  have := bE218 H
  have := bE219 H
  have := bE220 H
  have := bE221 H
  have := bE222 H
  have := bE223 H
  have := bE224 H
  have := bE225 H
  have := bE294 H
  unfold Clk.dateDay
  omega
theorem bR294 {s : Int} (H : bHyp s) : -274 ≤ b294 s ∧ b294 s ≤ 366 := by
  have := bE294 H
  have := bR225 H
  omega
theorem bE301 {s : Int} (H : bHyp s) : b301 s = (b243 s) := by
  have := bR243 H
  unfold b301
  rw [bF244 H]
  exact Clk.f2i_fo _ (by omega)
theorem bR301 {s : Int} (H : bHyp s) : 0 ≤ b301 s ∧ b301 s ≤ 23 := by
  have := bE301 H
  have := bR243 H
  omega
theorem bE308 {s : Int} (H : bHyp s) : b308 s = (b262 s) := by
  have := bR262 H
  unfold b308
  rw [bF263 H]
  exact Clk.f2i_fo _ (by omega)
theorem bR308 {s : Int} (H : bHyp s) : 0 ≤ b308 s ∧ b308 s ≤ 59 := by
  have := bE308 H
  have := bR262 H
  omega
theorem bE315 {s : Int} (H : bHyp s) : b315 s = (b287 s) / 12 := rfl
theorem bR315 {s : Int} (H : bHyp s) : 0 ≤ b315 s ∧ b315 s ≤ 0 := by
  have := bE315 H
  have := bR287 H
  omega
theorem bE316 {s : Int} (H : bHyp s) : b316 s = (b315 s) := by
  have := bR315 H
  unfold b316
  exact wrap_id _ (by omega) (by omega)
theorem bR316 {s : Int} (H : bHyp s) : 0 ≤ b316 s ∧ b316 s ≤ 0 := by
  have := bE316 H
  have := bR315 H
  omega
theorem bE317 {s : Int} (H : bHyp s) : b317 s = (b279 s) + (b316 s) := rfl
theorem bR317 {s : Int} (H : bHyp s) : 0 ≤ b317 s ∧ b317 s ≤ 9999 := by
  have := bE317 H
  have := bR279 H
  have := bR316 H
  omega
theorem bE318 {s : Int} (H : bHyp s) : b318 s = (b317 s) := by
  have := bR317 H
  unfold b318
  exact wrap_id _ (by omega) (by omega)
theorem bYear {s : Int} (H : bHyp s) : (b318 s) = Clk.dateYear (b32 s) := by
  have := bY H; have := bM H; have := H.hm
  have := bR199 H
  have := bE176 H
  have := bE177 H
  have := bE178 H
  have := bE179 H
  have := bE180 H
  have := bE181 H
  have := bE198 H
  have := bE199 H
  have := bE279 H
  have := bE287 H
  have := bE294 H
  have := bE301 H
  have := bE308 H
  have := bE315 H
  have := bE316 H
  have := bE317 H
  have := bE318 H
  have := bE56 H; have := bE57 H; have := bE58 H
  unfold Clk.dateYear Clk.dateCyc
  rw [if_neg (by omega)]
  omega
theorem bR318 {s : Int} (H : bHyp s) : -9999 ≤ b318 s ∧ b318 s ≤ 9999 := by
  have := bYear H
  have := bR32 H
  have := Clk.dateYear_range (b32 s) (by omega) (by omega)
  omega
theorem bF326 {s : Int} (H : bHyp s) : b326 s = Clk.fo ((b103 s) + 0) := by
  unfold b326
  rw [bF106 H]
  rfl
theorem bF336 {s : Int} (H : bHyp s) : b336 s = Clk.fo ((((b103 s) + 0)).natAbs : Int) := by
  have := bR103 H
  unfold b336 b335 b334 b333 b330
  rw [bF326 H]
  exact Clk.abs_fo _ (by omega)
theorem bE340 {s : Int} (H : bHyp s) : b340 s = (b287 s) % 12 := rfl
theorem bMonth {s : Int} (H : bHyp s) : (b340 s) = Clk.dateMonth (b32 s) := by
  have := bM H; have := H.hm
  have := bR199 H
  have := bE198 H
  have := bE199 H
  have := bE287 H
  have := bE294 H
  have := bE301 H
  have := bE308 H
  have := bE315 H
  have := bE316 H
  have := bE317 H
  have := bE318 H
  have := bE340 H
  unfold Clk.dateMonth
  rw [if_neg (by omega)]
  omega
theorem bR340 {s : Int} (H : bHyp s) : 2 ≤ b340 s ∧ b340 s ≤ 11 := by
  have := bR199 H; have := bE287 H; have := bE340 H
  omega
theorem bF345 {s : Int} (H : bHyp s) : b345 s = Clk.fo ((b103 s) + 0) := by
  have := bR103 H
  unfold b345
  rw [bF326 H]
  exact Clk.fround_fo _ (by omega)
theorem bE347 {s : Int} (H : bHyp s) : b347 s = (b318 s) / 400 := rfl
theorem bR347 {s : Int} (H : bHyp s) : -25 ≤ b347 s ∧ b347 s ≤ 24 := by
  have := bE347 H
  have := bR318 H
  omega
theorem bE348 {s : Int} (H : bHyp s) : b348 s = (b347 s) := by
  have := bR347 H
  unfold b348
  exact wrap_id _ (by omega) (by omega)
theorem bR348 {s : Int} (H : bHyp s) : -25 ≤ b348 s ∧ b348 s ≤ 24 := by
  have := bE348 H
  have := bR347 H
  omega
theorem bE349 {s : Int} (H : bHyp s) : b349 s = (b348 s) * 146097 := rfl
theorem bR349 {s : Int} (H : bHyp s) : -3652425 ≤ b349 s ∧ b349 s ≤ 3506328 := by
  have := bE349 H
  have := bR348 H
  omega
theorem bE350 {s : Int} (H : bHyp s) : b350 s = (b349 s) := by
  have := bR349 H
  unfold b350
  exact wrap_id _ (by omega) (by omega)
theorem bR350 {s : Int} (H : bHyp s) : -3652425 ≤ b350 s ∧ b350 s ≤ 3506328 := by
  have := bE350 H
  have := bR349 H
  omega
theorem bE351 {s : Int} (H : bHyp s) : b351 s = (b318 s) % 400 := rfl
theorem bR351 {s : Int} (H : bHyp s) : 0 ≤ b351 s ∧ b351 s ≤ 399 := by
  have := bE351 H
  have := bR318 H
  omega
theorem bE352 {s : Int} (H : bHyp s) : b352 s = (b351 s) * 365 := rfl
theorem bR352 {s : Int} (H : bHyp s) : 0 ≤ b352 s ∧ b352 s ≤ 145635 := by
  have := bE352 H
  have := bR351 H
  omega
theorem bE353 {s : Int} (H : bHyp s) : b353 s = (b352 s) := by
  have := bR352 H
  unfold b353
  exact wrap_id _ (by omega) (by omega)
theorem bR353 {s : Int} (H : bHyp s) : 0 ≤ b353 s ∧ b353 s ≤ 145635 := by
  have := bE353 H
  have := bR352 H
  omega
theorem bE354 {s : Int} (H : bHyp s) : b354 s = (b350 s) + (b353 s) := rfl
theorem bR354 {s : Int} (H : bHyp s) : -3652425 ≤ b354 s ∧ b354 s ≤ 3651963 := by
  have := bE354 H
  have := bR350 H
  have := bR353 H
  omega
theorem bE355 {s : Int} (H : bHyp s) : b355 s = (b354 s) := by
  have := bR354 H
  unfold b355
  exact wrap_id _ (by omega) (by omega)
theorem bR355 {s : Int} (H : bHyp s) : -3652425 ≤ b355 s ∧ b355 s ≤ 3651963 := by
  have := bE355 H
  have := bR354 H
  omega
theorem bE356 {s : Int} (H : bHyp s) : b356 s = (b351 s) / 4 := by
  have := bR351 H
  exact Int.tdiv_eq_ediv_of_nonneg (by omega)
theorem bR356 {s : Int} (H : bHyp s) : 0 ≤ b356 s ∧ b356 s ≤ 99 := by
  have := bE356 H
  have := bR351 H
  omega
theorem bE357 {s : Int} (H : bHyp s) : b357 s = (b356 s) := by
  have := bR356 H
  unfold b357
  exact wrap_id _ (by omega) (by omega)
theorem bR357 {s : Int} (H : bHyp s) : 0 ≤ b357 s ∧ b357 s ≤ 99 := by
  have := bE357 H
  have := bR356 H
  omega
theorem bE358 {s : Int} (H : bHyp s) : b358 s = (b355 s) + (b357 s) := rfl
theorem bR358 {s : Int} (H : bHyp s) : -3652425 ≤ b358 s ∧ b358 s ≤ 3652062 := by
  have := bE358 H
  have := bR355 H
  have := bR357 H
  omega
theorem bE359 {s : Int} (H : bHyp s) : b359 s = (b358 s) := by
  have := bR358 H
  unfold b359
  exact wrap_id _ (by omega) (by omega)
theorem bR359 {s : Int} (H : bHyp s) : -3652425 ≤ b359 s ∧ b359 s ≤ 3652062 := by
  have := bE359 H
  have := bR358 H
  omega
theorem bE360 {s : Int} (H : bHyp s) : b360 s = (b351 s) / 100 := by
  have := bR351 H
  exact Int.tdiv_eq_ediv_of_nonneg (by omega)
theorem bR360 {s : Int} (H : bHyp s) : 0 ≤ b360 s ∧ b360 s ≤ 3 := by
  have := bE360 H
  have := bR351 H
  omega
theorem bE361 {s : Int} (H : bHyp s) : b361 s = (b360 s) := by
  have := bR360 H
  unfold b361
  exact wrap_id _ (by omega) (by omega)
theorem bR361 {s : Int} (H : bHyp s) : 0 ≤ b361 s ∧ b361 s ≤ 3 := by
  have := bE361 H
  have := bR360 H
  omega
theorem bE362 {s : Int} (H : bHyp s) : b362 s = (b359 s) - (b361 s) := rfl
theorem bR362 {s : Int} (H : bHyp s) : -3652428 ≤ b362 s ∧ b362 s ≤ 3652062 := by
  have := bE362 H
  have := bR359 H
  have := bR361 H
  omega
theorem bE363 {s : Int} (H : bHyp s) : b363 s = (b362 s) := by
  have := bR362 H
  unfold b363
  exact wrap_id _ (by omega) (by omega)
theorem bR363 {s : Int} (H : bHyp s) : -3652428 ≤ b363 s ∧ b363 s ≤ 3652062 := by
  have := bE363 H
  have := bR362 H
  omega
theorem bE364 {s : Int} (H : bHyp s) : b364 s = (b340 s) + 10 := rfl
theorem bR364 {s : Int} (H : bHyp s) : 12 ≤ b364 s ∧ b364 s ≤ 21 := by
  have := bE364 H
  have := bR340 H
  omega
theorem bE365 {s : Int} (H : bHyp s) : b365 s = (b364 s) := by
  have := bR364 H
  unfold b365
  exact wrap_id _ (by omega) (by omega)
theorem bR365 {s : Int} (H : bHyp s) : 12 ≤ b365 s ∧ b365 s ≤ 21 := by
  have := bE365 H
  have := bR364 H
  omega
theorem bE366 {s : Int} (H : bHyp s) : b366 s = (b365 s) % 12 := by
  have := bR365 H
  exact Int.tmod_eq_emod_of_nonneg (by omega)
theorem bR366 {s : Int} (H : bHyp s) : 0 ≤ b366 s ∧ b366 s ≤ 11 := by
  have := bE366 H
  have := bR365 H
  omega
theorem bE367 {s : Int} (H : bHyp s) : b367 s = 153 * (b366 s) := rfl
theorem bR367 {s : Int} (H : bHyp s) : 0 ≤ b367 s ∧ b367 s ≤ 1683 := by
  have := bE367 H
  have := bR366 H
  omega
theorem bE368 {s : Int} (H : bHyp s) : b368 s = (b367 s) := by
  have := bR367 H
  unfold b368
  exact wrap_id _ (by omega) (by omega)
theorem bR368 {s : Int} (H : bHyp s) : 0 ≤ b368 s ∧ b368 s ≤ 1683 := by
  have := bE368 H
  have := bR367 H
  omega
theorem bE369 {s : Int} (H : bHyp s) : b369 s = (b368 s) + 2 := rfl
theorem bR369 {s : Int} (H : bHyp s) : 2 ≤ b369 s ∧ b369 s ≤ 1685 := by
  have := bE369 H
  have := bR368 H
  omega
theorem bE370 {s : Int} (H : bHyp s) : b370 s = (b369 s) := by
  have := bR369 H
  unfold b370
  exact wrap_id _ (by omega) (by omega)
theorem bR370 {s : Int} (H : bHyp s) : 2 ≤ b370 s ∧ b370 s ≤ 1685 := by
  have := bE370 H
  have := bR369 H
  omega
theorem bE371 {s : Int} (H : bHyp s) : b371 s = (b370 s) / 5 := by
  have := bR370 H
  exact Int.tdiv_eq_ediv_of_nonneg (by omega)
theorem bR371 {s : Int} (H : bHyp s) : 0 ≤ b371 s ∧ b371 s ≤ 337 := by
  have := bE371 H
  have := bR370 H
  omega
theorem bE372 {s : Int} (H : bHyp s) : b372 s = (b371 s) := by
  have := bR371 H
  unfold b372
  exact wrap_id _ (by omega) (by omega)
theorem bR372 {s : Int} (H : bHyp s) : 0 ≤ b372 s ∧ b372 s ≤ 337 := by
  have := bE372 H
  have := bR371 H
  omega
theorem bE373 {s : Int} (H : bHyp s) : b373 s = (b363 s) + (b372 s) := rfl
theorem bR373 {s : Int} (H : bHyp s) : -3652428 ≤ b373 s ∧ b373 s ≤ 3652399 := by
  have := bE373 H
  have := bR363 H
  have := bR372 H
  omega
theorem bE374 {s : Int} (H : bHyp s) : b374 s = (b373 s) := by
  have := bR373 H
  unfold b374
  exact wrap_id _ (by omega) (by omega)
theorem bR374 {s : Int} (H : bHyp s) : -3652428 ≤ b374 s ∧ b374 s ≤ 3652399 := by
  have := bE374 H
  have := bR373 H
  omega
theorem bE375 {s : Int} (H : bHyp s) : b375 s = (b374 s) + 1 := rfl
theorem bR375 {s : Int} (H : bHyp s) : -3652427 ≤ b375 s ∧ b375 s ≤ 3652400 := by
  have := bE375 H
  have := bR374 H
  omega
theorem bE376 {s : Int} (H : bHyp s) : b376 s = (b375 s) := by
  have := bR375 H
  unfold b376
  exact wrap_id _ (by omega) (by omega)
theorem bR376 {s : Int} (H : bHyp s) : -3652427 ≤ b376 s ∧ b376 s ≤ 3652400 := by
  have := bE376 H
  have := bR375 H
  omega
theorem bE377 {s : Int} (H : bHyp s) : b377 s = (b376 s) - 1 := rfl
theorem bR377 {s : Int} (H : bHyp s) : -3652428 ≤ b377 s ∧ b377 s ≤ 3652399 := by
  have := bE377 H
  have := bR376 H
  omega
theorem bE378 {s : Int} (H : bHyp s) : b378 s = (b377 s) := by
  have := bR377 H
  unfold b378
  exact wrap_id _ (by omega) (by omega)
theorem bR378 {s : Int} (H : bHyp s) : -3652428 ≤ b378 s ∧ b378 s ≤ 3652399 := by
  have := bE378 H
  have := bR377 H
  omega
theorem bE379 {s : Int} (H : bHyp s) : b379 s = (b378 s) - 719468 := rfl
theorem bR379 {s : Int} (H : bHyp s) : -4371896 ≤ b379 s ∧ b379 s ≤ 2932931 := by
  have := bE379 H
  have := bR378 H
  omega
theorem bE380 {s : Int} (H : bHyp s) : b380 s = (b379 s) := by
  have := bR379 H
  unfold b380
  exact wrap_id _ (by omega) (by omega)
theorem bNum {s : Int} (H : bHyp s) : (b380 s) = Clk.number (b318 s) (b340 s) 1 := by
  have := bR340 H; have := H.hm
  have := bE347 H
  have := bE348 H
  have := bE349 H
  have := bE350 H
  have := bE351 H
  have := bE352 H
  have := bE353 H
  have := bE354 H
  have := bE355 H
  have := bE356 H
  have := bE357 H
  have := bE358 H
  have := bE359 H
  have := bE360 H
  have := bE361 H
  have := bE362 H
  have := bE363 H
  have := bE364 H
  have := bE365 H
  have := bE366 H
  have := bE367 H
  have := bE368 H
  have := bE369 H
  have := bE370 H
  have := bE371 H
  have := bE372 H
  have := bE373 H
  have := bE374 H
  have := bE375 H
  have := bE376 H
  have := bE377 H
  have := bE378 H
  have := bE379 H
  have := bE380 H
  have hq : ((b340 s) + 10) % 12 = (b340 s) - 2 := by omega
  unfold Clk.number
  rw [if_neg (by omega)]
  simp only
  rw [hq]
  omega
theorem bR380 {s : Int} (H : bHyp s) : -4371896 ≤ b380 s ∧ b380 s ≤ 2932931 := by
  have := bE380 H
  have := bR379 H
  omega
theorem bE381 {s : Int} (H : bHyp s) : b381 s = (b380 s) + (b294 s) := rfl
theorem bR381 {s : Int} (H : bHyp s) : -4372170 ≤ b381 s ∧ b381 s ≤ 2933297 := by
  have := bE381 H
  have := bR380 H
  have := bR294 H
  omega
theorem bE382 {s : Int} (H : bHyp s) : b382 s = (b381 s) := by
  have := bR381 H
  unfold b382
  exact wrap_id _ (by omega) (by omega)
theorem bR382 {s : Int} (H : bHyp s) : -4372170 ≤ b382 s ∧ b382 s ≤ 2933297 := by
  have := bE382 H
  have := bR381 H
  omega
theorem bE383 {s : Int} (H : bHyp s) : b383 s = (b382 s) - 1 := rfl
theorem bR383 {s : Int} (H : bHyp s) : -4372171 ≤ b383 s ∧ b383 s ≤ 2933296 := by
  have := bE383 H
  have := bR382 H
  omega
theorem bE384 {s : Int} (H : bHyp s) : b384 s = (b383 s) := by
  have := bR383 H
  unfold b384
  exact wrap_id _ (by omega) (by omega)
theorem bR384 {s : Int} (H : bHyp s) : -4372171 ≤ b384 s ∧ b384 s ≤ 2933296 := by
  have := bE384 H
  have := bR383 H
  omega
theorem bE385 {s : Int} (H : bHyp s) : b385 s = (b384 s) * 86400 := rfl
theorem bR385 {s : Int} (H : bHyp s) : -377755574400 ≤ b385 s ∧ b385 s ≤ 253436774400 := by
  have := bE385 H
  have := bR384 H
  omega
theorem bE386 {s : Int} (H : bHyp s) : b386 s = (b385 s) := by
  have := bR385 H
  unfold b386
  exact wrap_id _ (by omega) (by omega)
theorem bR386 {s : Int} (H : bHyp s) : -377755574400 ≤ b386 s ∧ b386 s ≤ 253436774400 := by
  have := bE386 H
  have := bR385 H
  omega
theorem bE387 {s : Int} (H : bHyp s) : b387 s = (b301 s) * 3600 := rfl
theorem bR387 {s : Int} (H : bHyp s) : 0 ≤ b387 s ∧ b387 s ≤ 82800 := by
  have := bE387 H
  have := bR301 H
  omega
theorem bE388 {s : Int} (H : bHyp s) : b388 s = (b387 s) := by
  have := bR387 H
  unfold b388
  exact wrap_id _ (by omega) (by omega)
theorem bR388 {s : Int} (H : bHyp s) : 0 ≤ b388 s ∧ b388 s ≤ 82800 := by
  have := bE388 H
  have := bR387 H
  omega
theorem bE389 {s : Int} (H : bHyp s) : b389 s = (b386 s) + (b388 s) := rfl
theorem bR389 {s : Int} (H : bHyp s) : -377755574400 ≤ b389 s ∧ b389 s ≤ 253436857200 := by
  have := bE389 H
  have := bR386 H
  have := bR388 H
  omega
theorem bE390 {s : Int} (H : bHyp s) : b390 s = (b389 s) := by
  have := bR389 H
  unfold b390
  exact wrap_id _ (by omega) (by omega)
theorem bR390 {s : Int} (H : bHyp s) : -377755574400 ≤ b390 s ∧ b390 s ≤ 253436857200 := by
  have := bE390 H
  have := bR389 H
  omega
theorem bE391 {s : Int} (H : bHyp s) : b391 s = (b308 s) * 60 := rfl
theorem bR391 {s : Int} (H : bHyp s) : 0 ≤ b391 s ∧ b391 s ≤ 3540 := by
  have := bE391 H
  have := bR308 H
  omega
theorem bE392 {s : Int} (H : bHyp s) : b392 s = (b391 s) := by
  have := bR391 H
  unfold b392
  exact wrap_id _ (by omega) (by omega)
theorem bR392 {s : Int} (H : bHyp s) : 0 ≤ b392 s ∧ b392 s ≤ 3540 := by
  have := bE392 H
  have := bR391 H
  omega
theorem bE393 {s : Int} (H : bHyp s) : b393 s = (b390 s) + (b392 s) := rfl
theorem bR393 {s : Int} (H : bHyp s) : -377755574400 ≤ b393 s ∧ b393 s ≤ 253436860740 := by
  have := bE393 H
  have := bR390 H
  have := bR392 H
  omega
theorem bE394 {s : Int} (H : bHyp s) : b394 s = (b393 s) := by
  have := bR393 H
  unfold b394
  exact wrap_id _ (by omega) (by omega)
theorem bR394 {s : Int} (H : bHyp s) : -377755574400 ≤ b394 s ∧ b394 s ≤ 253436860740 := by
  have := bE394 H
  have := bR393 H
  omega
theorem bE395 {s : Int} (H : bHyp s) : b395 s = ((b103 s) + 0) := by
  have := bR103 H
  unfold b395
  rw [bF345 H]
  exact Clk.f2i_fo _ (by omega)
theorem bR395 {s : Int} (H : bHyp s) : 0 ≤ b395 s ∧ b395 s ≤ 59 := by
  have := bE395 H
  have := bR103 H
  omega
theorem bE396 {s : Int} (H : bHyp s) : b396 s = (b394 s) + (b395 s) := rfl
theorem bR396 {s : Int} (H : bHyp s) : -377755574400 ≤ b396 s ∧ b396 s ≤ 253436860799 := by
  have := bE396 H
  have := bR394 H
  have := bR395 H
  omega
theorem bE397 {s : Int} (H : bHyp s) : b397 s = (b396 s) := by
  have := bR396 H
  unfold b397
  exact wrap_id _ (by omega) (by omega)
theorem bTot {s : Int} (H : bHyp s) : (b397 s) = s := by
  have := bE381 H
  have := bE382 H
  have := bE383 H
  have := bE384 H
  have := bE385 H
  have := bE386 H
  have := bE387 H
  have := bE388 H
  have := bE389 H
  have := bE390 H
  have := bE391 H
  have := bE392 H
  have := bE393 H
  have := bE394 H
  have := bE395 H
  have := bE396 H
  have := bE397 H
  have := bE301 H
  have := bE308 H
  have := bE242 H
  have := bE243 H
  have := bE260 H
  have := bE261 H
  have := bE262 H
  have := bE30 H; have := bE31 H; have := bE32 H; have := bE102 H; have := bE103 H
  have hn := bNum H
  have h1 := bYear H
  have h2 := bMonth H
  have h3 := bDay H
  rw [h1, h2] at hn
  have h4 := Clk.number_day (Clk.dateYear (b32 s)) (Clk.dateMonth (b32 s)) (Clk.dateDay (b32 s))
  rw [Clk.number_date] at h4
  omega
theorem bR397 {s : Int} (H : bHyp s) : -62135596800 ≤ b397 s ∧ b397 s ≤ 253402300799 := by
  have := bTot H
  have := H.h0; have := H.h1
  omega
theorem bE398 {s : Int} (H : bHyp s) : b398 s = (b397 s) / 86400 := rfl
theorem bR398 {s : Int} (H : bHyp s) : -719162 ≤ b398 s ∧ b398 s ≤ 2932896 := by
  have := bE398 H
  have := bR397 H
  omega
theorem bE399 {s : Int} (H : bHyp s) : b399 s = (b398 s) := by
  have := bR398 H
  unfold b399
  exact wrap_id _ (by omega) (by omega)
theorem bR399 {s : Int} (H : bHyp s) : -719162 ≤ b399 s ∧ b399 s ≤ 2932896 := by
  have := bE399 H
  have := bR398 H
  omega
theorem bF410 {s : Int} (H : bHyp s) : b410 s = Clk.fo (b397 s) := rfl
theorem bC11 {s : Int} (H : bHyp s) : (Go.Ev.froundOk (b10 s)) = true := by
  have := H.h0; have := H.h1
  rw [bF10 H]
  exact Clk.froundOk_fo _ (by omega)
theorem bC16 {s : Int} (H : bHyp s) : (((b14 s) != (Option.some Ordering.eq)) == false) = true := by
  have := H.h0; have := H.h1
  unfold b14
  rw [bF13 H, Clk.ord_self _ (by omega)]
  rfl
theorem bC28 {s : Int} (H : bHyp s) : (((b26 s) == (Option.some Ordering.gt)) == false) = true := by
  have := H.h0; have := H.h1
  unfold b26
  rw [bF25 H, Clk.ord_1e12 _ (by omega) (by omega)]
  rfl
theorem bC29 {s : Int} (H : bHyp s) : (Go.Ev.f2iOk Go.FloatKind.f64 (b13 s) Go.IntKind.i64) = true := by
  have := H.h0; have := H.h1
  rw [bF13 H]
  exact Clk.f2iOk_fo _ (by omega)
theorem bC36 {s : Int} (H : bHyp s) : ((decide ((b32 s) < ((-4371587 : Int)))) == false) = true := by
  have := bR32 H
  simp only [beq_iff_eq, decide_eq_false_iff_not, decide_eq_true_eq]
  omega
theorem bC39 {s : Int} (H : bHyp s) : ((decide ((b32 s) > 2932896)) == false) = true := by
  have := bR32 H
  simp only [beq_iff_eq, decide_eq_false_iff_not, decide_eq_true_eq]
  omega
theorem bC93 {s : Int} (H : bHyp s) : ((decide ((b90 s) ≥ 10)) == false) = true := by
  have := bR90 H
  simp only [beq_iff_eq, decide_eq_false_iff_not, decide_eq_true_eq]
  omega
theorem bC101 {s : Int} (H : bHyp s) : (Option.isSome (b100 s)) = true := by
  rw [bF100 H]
  rfl
theorem bC107 {s : Int} (H : bHyp s) : (Option.isSome (b106 s)) = true := by
  rw [bF106 H]
  rfl
theorem bC185 {s : Int} (H : bHyp s) : (((b183 s) != (Option.some Ordering.eq)) == false) = true := by
  have := bR181 H
  unfold b183
  rw [bF182 H, Clk.ord_self _ (by omega)]
  rfl
theorem bC190 {s : Int} (H : bHyp s) : ((((b186 s) == (Option.some Ordering.gt)) || ((b186 s) == (Option.some Ordering.eq))) == false) = true := by
  have := bR181 H
  unfold b186
  rw [bF182 H, Clk.ord_p63 _ (by omega)]
  rfl
theorem bC193 {s : Int} (H : bHyp s) : (((b191 s) == (Option.some Ordering.lt)) == false) = true := by
  have := bR181 H
  unfold b191
  rw [bF182 H, Clk.ord_m63 _ (by omega)]
  rfl
theorem bC194 {s : Int} (H : bHyp s) : (Go.Ev.f2iOk Go.FloatKind.f64 (b182 s) Go.IntKind.i64) = true := by
  have := bR181 H
  rw [bF182 H]
  exact Clk.f2iOk_fo _ (by omega)
theorem bC203 {s : Int} (H : bHyp s) : (((b201 s) != (Option.some Ordering.eq)) == false) = true := by
  have := bR199 H
  unfold b201
  rw [bF200 H, Clk.ord_self _ (by omega)]
  rfl
theorem bC208 {s : Int} (H : bHyp s) : ((((b204 s) == (Option.some Ordering.gt)) || ((b204 s) == (Option.some Ordering.eq))) == false) = true := by
  have := bR199 H
  unfold b204
  rw [bF200 H, Clk.ord_p63 _ (by omega)]
  rfl
theorem bC211 {s : Int} (H : bHyp s) : (((b209 s) == (Option.some Ordering.lt)) == false) = true := by
  have := bR199 H
  unfold b209
  rw [bF200 H, Clk.ord_m63 _ (by omega)]
  rfl
theorem bC212 {s : Int} (H : bHyp s) : (Go.Ev.f2iOk Go.FloatKind.f64 (b200 s) Go.IntKind.i64) = true := by
  have := bR199 H
  rw [bF200 H]
  exact Clk.f2iOk_fo _ (by omega)
theorem bC229 {s : Int} (H : bHyp s) : (((b227 s) != (Option.some Ordering.eq)) == false) = true := by
  have := bR225 H
  unfold b227
  rw [bF226 H, Clk.ord_self _ (by omega)]
  rfl
theorem bC234 {s : Int} (H : bHyp s) : ((((b230 s) == (Option.some Ordering.gt)) || ((b230 s) == (Option.some Ordering.eq))) == false) = true := by
  have := bR225 H
  unfold b230
  rw [bF226 H, Clk.ord_p63 _ (by omega)]
  rfl
theorem bC237 {s : Int} (H : bHyp s) : (((b235 s) == (Option.some Ordering.lt)) == false) = true := by
  have := bR225 H
  unfold b235
  rw [bF226 H, Clk.ord_m63 _ (by omega)]
  rfl
theorem bC238 {s : Int} (H : bHyp s) : (Go.Ev.f2iOk Go.FloatKind.f64 (b226 s) Go.IntKind.i64) = true := by
  have := bR225 H
  rw [bF226 H]
  exact Clk.f2iOk_fo _ (by omega)
theorem bC247 {s : Int} (H : bHyp s) : (((b245 s) != (Option.some Ordering.eq)) == false) = true := by
  have := bR243 H
  unfold b245
  rw [bF244 H, Clk.ord_self _ (by omega)]
  rfl
theorem bC252 {s : Int} (H : bHyp s) : ((((b248 s) == (Option.some Ordering.gt)) || ((b248 s) == (Option.some Ordering.eq))) == false) = true := by
  have := bR243 H
  unfold b248
  rw [bF244 H, Clk.ord_p63 _ (by omega)]
  rfl
theorem bC255 {s : Int} (H : bHyp s) : (((b253 s) == (Option.some Ordering.lt)) == false) = true := by
  have := bR243 H
  unfold b253
  rw [bF244 H, Clk.ord_m63 _ (by omega)]
  rfl
theorem bC256 {s : Int} (H : bHyp s) : (Go.Ev.f2iOk Go.FloatKind.f64 (b244 s) Go.IntKind.i64) = true := by
  have := bR243 H
  rw [bF244 H]
  exact Clk.f2iOk_fo _ (by omega)
theorem bC266 {s : Int} (H : bHyp s) : (((b264 s) != (Option.some Ordering.eq)) == false) = true := by
  have := bR262 H
  unfold b264
  rw [bF263 H, Clk.ord_self _ (by omega)]
  rfl
theorem bC271 {s : Int} (H : bHyp s) : ((((b267 s) == (Option.some Ordering.gt)) || ((b267 s) == (Option.some Ordering.eq))) == false) = true := by
  have := bR262 H
  unfold b267
  rw [bF263 H, Clk.ord_p63 _ (by omega)]
  rfl
theorem bC274 {s : Int} (H : bHyp s) : (((b272 s) == (Option.some Ordering.lt)) == false) = true := by
  have := bR262 H
  unfold b272
  rw [bF263 H, Clk.ord_m63 _ (by omega)]
  rfl
theorem bC275 {s : Int} (H : bHyp s) : (Go.Ev.f2iOk Go.FloatKind.f64 (b263 s) Go.IntKind.i64) = true := by
  have := bR262 H
  rw [bF263 H]
  exact Clk.f2iOk_fo _ (by omega)
theorem bC283 {s : Int} (H : bHyp s) : ((decide ((b279 s) < ((-1000000000 : Int)))) == false) = true := by
  have := bR279 H
  simp only [beq_iff_eq, decide_eq_false_iff_not, decide_eq_true_eq]
  omega
theorem bC286 {s : Int} (H : bHyp s) : ((decide ((b279 s) > 1000000000)) == false) = true := by
  have := bR279 H
  simp only [beq_iff_eq, decide_eq_false_iff_not, decide_eq_true_eq]
  omega
theorem bC290 {s : Int} (H : bHyp s) : ((decide ((b287 s) < ((-1000000000 : Int)))) == false) = true := by
  have := bR287 H
  simp only [beq_iff_eq, decide_eq_false_iff_not, decide_eq_true_eq]
  omega
theorem bC293 {s : Int} (H : bHyp s) : ((decide ((b287 s) > 1000000000)) == false) = true := by
  have := bR287 H
  simp only [beq_iff_eq, decide_eq_false_iff_not, decide_eq_true_eq]
  omega
theorem bC297 {s : Int} (H : bHyp s) : ((decide ((b294 s) < ((-1000000000 : Int)))) == false) = true := by
  have := bR294 H
  simp only [beq_iff_eq, decide_eq_false_iff_not, decide_eq_true_eq]
  omega
theorem bC300 {s : Int} (H : bHyp s) : ((decide ((b294 s) > 1000000000)) == false) = true := by
  have := bR294 H
  simp only [beq_iff_eq, decide_eq_false_iff_not, decide_eq_true_eq]
  omega
theorem bC304 {s : Int} (H : bHyp s) : ((decide ((b301 s) < ((-1000000000 : Int)))) == false) = true := by
  have := bR301 H
  simp only [beq_iff_eq, decide_eq_false_iff_not, decide_eq_true_eq]
  omega
theorem bC307 {s : Int} (H : bHyp s) : ((decide ((b301 s) > 1000000000)) == false) = true := by
  have := bR301 H
  simp only [beq_iff_eq, decide_eq_false_iff_not, decide_eq_true_eq]
  omega
theorem bC311 {s : Int} (H : bHyp s) : ((decide ((b308 s) < ((-1000000000 : Int)))) == false) = true := by
  have := bR308 H
  simp only [beq_iff_eq, decide_eq_false_iff_not, decide_eq_true_eq]
  omega
theorem bC314 {s : Int} (H : bHyp s) : ((decide ((b308 s) > 1000000000)) == false) = true := by
  have := bR308 H
  simp only [beq_iff_eq, decide_eq_false_iff_not, decide_eq_true_eq]
  omega
theorem bC322 {s : Int} (H : bHyp s) : ((decide ((b318 s) < ((-9999 : Int)))) == false) = true := by
  have := bR318 H
  simp only [beq_iff_eq, decide_eq_false_iff_not, decide_eq_true_eq]
  omega
theorem bC325 {s : Int} (H : bHyp s) : ((decide ((b318 s) > 9999)) == false) = true := by
  have := bR318 H
  simp only [beq_iff_eq, decide_eq_false_iff_not, decide_eq_true_eq]
  omega
theorem bC329 {s : Int} (H : bHyp s) : (((b327 s) != (Option.some Ordering.eq)) == false) = true := by
  have := bR103 H
  unfold b327
  rw [bF326 H, Clk.ord_self _ (by omega)]
  rfl
theorem bC339 {s : Int} (H : bHyp s) : (((b337 s) == (Option.some Ordering.gt)) == false) = true := by
  have := bR103 H
  unfold b337
  rw [bF336 H, Clk.ord_1e9 _ (by omega) (by omega)]
  rfl
theorem bC343 {s : Int} (H : bHyp s) : ((decide ((b340 s) < 2)) == false) = true := by
  have := bR340 H
  simp only [beq_iff_eq, decide_eq_false_iff_not, decide_eq_true_eq]
  omega
theorem bC344 {s : Int} (H : bHyp s) : (Go.Ev.froundOk (b326 s)) = true := by
  have := bR103 H
  rw [bF326 H]
  exact Clk.froundOk_fo _ (by omega)
theorem bC346 {s : Int} (H : bHyp s) : (Go.Ev.f2iOk Go.FloatKind.f64 (b345 s) Go.IntKind.i64) = true := by
  have := bR103 H
  rw [bF345 H]
  exact Clk.f2iOk_fo _ (by omega)
theorem bC402 {s : Int} (H : bHyp s) : ((decide ((b399 s) < ((-4371587 : Int)))) == false) = true := by
  have := bR399 H
  simp only [beq_iff_eq, decide_eq_false_iff_not, decide_eq_true_eq]
  omega
theorem bC405 {s : Int} (H : bHyp s) : ((decide ((b399 s) > 2932896)) == false) = true := by
  have := bR399 H
  simp only [beq_iff_eq, decide_eq_false_iff_not, decide_eq_true_eq]
  omega
theorem bC413 {s : Int} (H : bHyp s) : (((b411 s) == (Option.some Ordering.eq)) == true) = true := by
  have := bR397 H
  have := H.h0; have := H.h1
  have := H.h0; have := H.h1
  have := bTot H
  unfold b411
  rw [bF410 H, bF10 H, Clk.eq_fo _ _ (by omega) (by omega)]
  simp only [beq_iff_eq, decide_eq_true_eq]
  omega
theorem bAll {s : Int} (H : bHyp s) : ∀ b ∈ bRecs s, b = true := by
  unfold bRecs
  simp only [bC11 H, bC16 H, bC28 H, bC29 H, bC36 H, bC39 H, bC93 H, bC101 H, bC107 H, bC185 H, bC190 H, bC193 H, bC194 H, bC203 H, bC208 H, bC211 H, bC212 H, bC229 H, bC234 H, bC237 H, bC238 H, bC247 H, bC252 H, bC255 H, bC256 H, bC266 H, bC271 H, bC274 H, bC275 H, bC283 H, bC286 H, bC290 H, bC293 H, bC297 H, bC300 H, bC304 H, bC307 H, bC311 H, bC314 H, bC322 H, bC325 H, bC329 H, bC339 H, bC343 H, bC344 H, bC346 H, bC402 H, bC405 H, bC413 H, List.mem_cons, List.not_mem_nil, or_false, or_self]
  exact fun b h => h
end Go.Proofs.YthopphfehgdocaaGreatDoor
