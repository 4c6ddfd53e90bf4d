import Derived.Test.YthopphfehgdocaaGreatDoorRoadA
namespace Go.Proofs.YthopphfehgdocaaGreatDoor
open Go Go.RowKit Go.Ev Go.Proofs Go.Shelf
set_option linter.unusedSimpArgs false
set_option linter.unusedVariables false
structure aHyp (s : Int) : Prop where
  h0 : -62135596800 ≤ s
  h1 : s ≤ 253402300799
  hm : 10 ≤ a90 s
theorem aF10 {s : Int} (H : aHyp s) : a10 s = Clk.fo s := rfl
theorem aF13 {s : Int} (H : aHyp s) : a13 s = Clk.fo s := by
  have := H.h0; have := H.h1
  unfold a13
  rw [aF10 H]
  exact Clk.fround_fo _ (by omega)
theorem aF25 {s : Int} (H : aHyp s) : a25 s = Clk.fo ((s).natAbs : Int) := by
  have := H.h0; have := H.h1
  unfold a25 a24 a23 a22 a17
  rw [aF13 H]
  exact Clk.abs_fo _ (by omega)
theorem aE30 {s : Int} (H : aHyp s) : a30 s = s := by
  have := H.h0; have := H.h1
  unfold a30
  rw [aF13 H]
  exact Clk.f2i_fo _ (by omega)
theorem aR30 {s : Int} (H : aHyp s) : -62135596800 ≤ a30 s ∧ a30 s ≤ 253402300799 := by
  have := aE30 H
  have := H.h0; have := H.h1
  omega
theorem aE31 {s : Int} (H : aHyp s) : a31 s = (a30 s) / 86400 := rfl
theorem aR31 {s : Int} (H : aHyp s) : -719162 ≤ a31 s ∧ a31 s ≤ 2932896 := by
  have := aE31 H
  have := aR30 H
  omega
theorem aE32 {s : Int} (H : aHyp s) : a32 s = (a31 s) := by
  have := aR31 H
  unfold a32
  exact wrap_id _ (by omega) (by omega)
theorem aR32 {s : Int} (H : aHyp s) : -719162 ≤ a32 s ∧ a32 s ≤ 2932896 := by
  have := aE32 H
  have := aR31 H
  omega
theorem aE56 {s : Int} (H : aHyp s) : a56 s = (a32 s) + 719468 := rfl
theorem aR56 {s : Int} (H : aHyp s) : 306 ≤ a56 s ∧ a56 s ≤ 3652364 := by
  have := aE56 H
  have := aR32 H
  omega
theorem aE57 {s : Int} (H : aHyp s) : a57 s = (a56 s) := by
  have := aR56 H
  unfold a57
  exact wrap_id _ (by omega) (by omega)
theorem aR57 {s : Int} (H : aHyp s) : 306 ≤ a57 s ∧ a57 s ≤ 3652364 := by
  have := aE57 H
  have := aR56 H
  omega
theorem aE58 {s : Int} (H : aHyp s) : a58 s = (a57 s) % 146097 := rfl
theorem aR58 {s : Int} (H : aHyp s) : 0 ≤ a58 s ∧ a58 s ≤ 146096 := by
  have := aE58 H
  have := aR57 H
  omega
theorem aE59 {s : Int} (H : aHyp s) : a59 s = (a58 s) / 1460 := by
  have := aR58 H
  exact Int.tdiv_eq_ediv_of_nonneg (by omega)
theorem aR59 {s : Int} (H : aHyp s) : 0 ≤ a59 s ∧ a59 s ≤ 100 := by
  have := aE59 H
  have := aR58 H
  omega
theorem aE60 {s : Int} (H : aHyp s) : a60 s = (a59 s) := by
  have := aR59 H
  unfold a60
  exact wrap_id _ (by omega) (by omega)
theorem aR60 {s : Int} (H : aHyp s) : 0 ≤ a60 s ∧ a60 s ≤ 100 := by
  have := aE60 H
  have := aR59 H
  omega
theorem aE61 {s : Int} (H : aHyp s) : a61 s = (a58 s) - (a60 s) := rfl
theorem aR61 {s : Int} (H : aHyp s) : -100 ≤ a61 s ∧ a61 s ≤ 146096 := by
  have := aE61 H
  have := aR58 H
  have := aR60 H
  omega
theorem aE62 {s : Int} (H : aHyp s) : a62 s = (a61 s) := by
  have := aR61 H
  unfold a62
  exact wrap_id _ (by omega) (by omega)
theorem aR62 {s : Int} (H : aHyp s) : -100 ≤ a62 s ∧ a62 s ≤ 146096 := by
  have := aE62 H
  have := aR61 H
  omega
theorem aE63 {s : Int} (H : aHyp s) : a63 s = (a58 s) / 36524 := by
  have := aR58 H
  exact Int.tdiv_eq_ediv_of_nonneg (by omega)
theorem aR63 {s : Int} (H : aHyp s) : 0 ≤ a63 s ∧ a63 s ≤ 4 := by
  have := aE63 H
  have := aR58 H
  omega
theorem aE64 {s : Int} (H : aHyp s) : a64 s = (a63 s) := by
  have := aR63 H
  unfold a64
  exact wrap_id _ (by omega) (by omega)
theorem aR64 {s : Int} (H : aHyp s) : 0 ≤ a64 s ∧ a64 s ≤ 4 := by
  have := aE64 H
  have := aR63 H
  omega
theorem aE65 {s : Int} (H : aHyp s) : a65 s = (a62 s) + (a64 s) := rfl
theorem aR65 {s : Int} (H : aHyp s) : -100 ≤ a65 s ∧ a65 s ≤ 146100 := by
  have := aE65 H
  have := aR62 H
  have := aR64 H
  omega
theorem aE66 {s : Int} (H : aHyp s) : a66 s = (a65 s) := by
  have := aR65 H
  unfold a66
  exact wrap_id _ (by omega) (by omega)
theorem aR66 {s : Int} (H : aHyp s) : -100 ≤ a66 s ∧ a66 s ≤ 146100 := by
  have := aE66 H
  have := aR65 H
  omega
theorem aE67 {s : Int} (H : aHyp s) : a67 s = (a58 s) / 146096 := by
  have := aR58 H
  exact Int.tdiv_eq_ediv_of_nonneg (by omega)
theorem aR67 {s : Int} (H : aHyp s) : 0 ≤ a67 s ∧ a67 s ≤ 1 := by
  have := aE67 H
  have := aR58 H
  omega
theorem aE68 {s : Int} (H : aHyp s) : a68 s = (a67 s) := by
  have := aR67 H
  unfold a68
  exact wrap_id _ (by omega) (by omega)
theorem aR68 {s : Int} (H : aHyp s) : 0 ≤ a68 s ∧ a68 s ≤ 1 := by
  have := aE68 H
  have := aR67 H
  omega
theorem aE69 {s : Int} (H : aHyp s) : a69 s = (a66 s) - (a68 s) := rfl
theorem aR69 {s : Int} (H : aHyp s) : -101 ≤ a69 s ∧ a69 s ≤ 146100 := by
  have := aE69 H
  have := aR66 H
  have := aR68 H
  omega
theorem aE70 {s : Int} (H : aHyp s) : a70 s = (a69 s) := by
  have := aR69 H
  unfold a70
  exact wrap_id _ (by omega) (by omega)
theorem aR70 {s : Int} (H : aHyp s) : 0 ≤ a70 s ∧ a70 s ≤ 146100 := by
  have := aE57 H
  have := aE58 H
  have := aE59 H
  have := aE60 H
  have := aE61 H
  have := aE62 H
  have := aE63 H
  have := aE64 H
  have := aE65 H
  have := aE66 H
  have := aE67 H
  have := aE68 H
  have := aE69 H
  have := aE70 H
  have := aR58 H
  omega
theorem aE71 {s : Int} (H : aHyp s) : a71 s = (a70 s) / 365 := by
  have := aR70 H
  exact Int.tdiv_eq_ediv_of_nonneg (by omega)
theorem aR71 {s : Int} (H : aHyp s) : 0 ≤ a71 s ∧ a71 s ≤ 400 := by
  have := aE71 H
  have := aR70 H
  omega
theorem aE72 {s : Int} (H : aHyp s) : a72 s = (a71 s) := by
  have := aR71 H
  unfold a72
  exact wrap_id _ (by omega) (by omega)
theorem aY {s : Int} (H : aHyp s) : a72 s = Clk.dateY (a32 s) := by
  have := aE56 H
  have := aE57 H
  have := aE58 H
  have := aE59 H
  have := aE60 H
  have := aE61 H
  have := aE62 H
  have := aE63 H
  have := aE64 H
  have := aE65 H
  have := aE66 H
  have := aE67 H
  have := aE68 H
  have := aE69 H
  have := aE70 H
  have := aE71 H
  have := aE72 H
  have := aR58 H
  unfold Clk.dateY Clk.dateD
  omega
theorem aR72 {s : Int} (H : aHyp s) : 0 ≤ a72 s ∧ a72 s ≤ 399 := by
  have := aY H
  have := Clk.dateY_spec (a32 s)
  omega
theorem aE73 {s : Int} (H : aHyp s) : a73 s = 365 * (a72 s) := rfl
theorem aR73 {s : Int} (H : aHyp s) : 0 ≤ a73 s ∧ a73 s ≤ 145635 := by
  have := aE73 H
  have := aR72 H
  omega
theorem aE74 {s : Int} (H : aHyp s) : a74 s = (a73 s) := by
  have := aR73 H
  unfold a74
  exact wrap_id _ (by omega) (by omega)
theorem aR74 {s : Int} (H : aHyp s) : 0 ≤ a74 s ∧ a74 s ≤ 145635 := by
  have := aE74 H
  have := aR73 H
  omega
theorem aE75 {s : Int} (H : aHyp s) : a75 s = (a72 s) / 4 := by
  have := aR72 H
  exact Int.tdiv_eq_ediv_of_nonneg (by omega)
theorem aR75 {s : Int} (H : aHyp s) : 0 ≤ a75 s ∧ a75 s ≤ 99 := by
  have := aE75 H
  have := aR72 H
  omega
theorem aE76 {s : Int} (H : aHyp s) : a76 s = (a75 s) := by
  have := aR75 H
  unfold a76
  exact wrap_id _ (by omega) (by omega)
theorem aR76 {s : Int} (H : aHyp s) : 0 ≤ a76 s ∧ a76 s ≤ 99 := by
  have := aE76 H
  have := aR75 H
  omega
theorem aE77 {s : Int} (H : aHyp s) : a77 s = (a74 s) + (a76 s) := rfl
theorem aR77 {s : Int} (H : aHyp s) : 0 ≤ a77 s ∧ a77 s ≤ 145734 := by
  have := aE77 H
  have := aR74 H
  have := aR76 H
  omega
theorem aE78 {s : Int} (H : aHyp s) : a78 s = (a77 s) := by
  have := aR77 H
  unfold a78
  exact wrap_id _ (by omega) (by omega)
theorem aR78 {s : Int} (H : aHyp s) : 0 ≤ a78 s ∧ a78 s ≤ 145734 := by
  have := aE78 H
  have := aR77 H
  omega
theorem aE79 {s : Int} (H : aHyp s) : a79 s = (a72 s) / 100 := by
  have := aR72 H
  exact Int.tdiv_eq_ediv_of_nonneg (by omega)
theorem aR79 {s : Int} (H : aHyp s) : 0 ≤ a79 s ∧ a79 s ≤ 3 := by
  have := aE79 H
  have := aR72 H
  omega
theorem aE80 {s : Int} (H : aHyp s) : a80 s = (a79 s) := by
  have := aR79 H
  unfold a80
  exact wrap_id _ (by omega) (by omega)
theorem aR80 {s : Int} (H : aHyp s) : 0 ≤ a80 s ∧ a80 s ≤ 3 := by
  have := aE80 H
  have := aR79 H
  omega
theorem aE81 {s : Int} (H : aHyp s) : a81 s = (a78 s) - (a80 s) := rfl
theorem aR81 {s : Int} (H : aHyp s) : -3 ≤ a81 s ∧ a81 s ≤ 145734 := by
  have := aE81 H
  have := aR78 H
  have := aR80 H
  omega
theorem aE82 {s : Int} (H : aHyp s) : a82 s = (a81 s) := by
  have := aR81 H
  unfold a82
  exact wrap_id _ (by omega) (by omega)
theorem aR82 {s : Int} (H : aHyp s) : -3 ≤ a82 s ∧ a82 s ≤ 145734 := by
  have := aE82 H
  have := aR81 H
  omega
theorem aE83 {s : Int} (H : aHyp s) : a83 s = (a58 s) - (a82 s) := rfl
theorem aR83 {s : Int} (H : aHyp s) : -145734 ≤ a83 s ∧ a83 s ≤ 146099 := by
  have := aE83 H
  have := aR58 H
  have := aR82 H
  omega
theorem aE84 {s : Int} (H : aHyp s) : a84 s = (a83 s) := by
  have := aR83 H
  unfold a84
  exact wrap_id _ (by omega) (by omega)
theorem aDoy {s : Int} (H : aHyp s) : a84 s = Clk.dateDoy (a32 s) := by
  have := aE73 H
  have := aE74 H
  have := aE75 H
  have := aE76 H
  have := aE77 H
  have := aE78 H
  have := aE79 H
  have := aE80 H
  have := aE81 H
  have := aE82 H
  have := aE83 H
  have := aE84 H
  have := aY H
  have := aE56 H; have := aE57 H; have := aE58 H
  have hd : Clk.dateD (a32 s) = (a32 s + 719468) % 146097 := rfl
  unfold Clk.dateDoy
  omega
theorem aR84 {s : Int} (H : aHyp s) : 0 ≤ a84 s ∧ a84 s ≤ 365 := by
  have := aDoy H
  have := Clk.dateY_spec (a32 s)
  omega
theorem aE85 {s : Int} (H : aHyp s) : a85 s = 5 * (a84 s) := rfl
theorem aR85 {s : Int} (H : aHyp s) : 0 ≤ a85 s ∧ a85 s ≤ 1825 := by
  have := aE85 H
  have := aR84 H
  omega
theorem aE86 {s : Int} (H : aHyp s) : a86 s = (a85 s) := by
  have := aR85 H
  unfold a86
  exact wrap_id _ (by omega) (by omega)
theorem aR86 {s : Int} (H : aHyp s) : 0 ≤ a86 s ∧ a86 s ≤ 1825 := by
  have := aE86 H
  have := aR85 H
  omega
theorem aE87 {s : Int} (H : aHyp s) : a87 s = (a86 s) + 2 := rfl
theorem aR87 {s : Int} (H : aHyp s) : 2 ≤ a87 s ∧ a87 s ≤ 1827 := by
  have := aE87 H
  have := aR86 H
  omega
theorem aE88 {s : Int} (H : aHyp s) : a88 s = (a87 s) := by
  have := aR87 H
  unfold a88
  exact wrap_id _ (by omega) (by omega)
theorem aR88 {s : Int} (H : aHyp s) : 2 ≤ a88 s ∧ a88 s ≤ 1827 := by
  have := aE88 H
  have := aR87 H
  omega
theorem aE89 {s : Int} (H : aHyp s) : a89 s = (a88 s) / 153 := by
  have := aR88 H
  exact Int.tdiv_eq_ediv_of_nonneg (by omega)
theorem aR89 {s : Int} (H : aHyp s) : 0 ≤ a89 s ∧ a89 s ≤ 11 := by
  have := aE89 H
  have := aR88 H
  omega
theorem aE90 {s : Int} (H : aHyp s) : a90 s = (a89 s) := by
  have := aR89 H
  unfold a90
  exact wrap_id _ (by omega) (by omega)
theorem aM {s : Int} (H : aHyp s) : a90 s = Clk.dateM (a32 s) := by
  have := aE85 H
  have := aE86 H
  have := aE87 H
  have := aE88 H
  have := aE89 H
  have := aE90 H
  have := aDoy H
  unfold Clk.dateM
  omega
theorem aR90 {s : Int} (H : aHyp s) : 10 ≤ a90 s ∧ a90 s ≤ 11 := by
  have := aM H
  have := Clk.date_ranges (a32 s)
  have := H.hm
  omega
theorem aF100 {s : Int} (H : aHyp s) : a100 s = some (Clk.fo 0) := by
  have := H.h0; have := H.h1
  unfold a100
  rw [aF10 H, aF13 H]
  exact Clk.sub_fo_self _ (by omega)
theorem aE102 {s : Int} (H : aHyp s) : a102 s = (a30 s) % 86400 := rfl
theorem aR102 {s : Int} (H : aHyp s) : 0 ≤ a102 s ∧ a102 s ≤ 86399 := by
  have := aE102 H
  have := aR30 H
  omega
theorem aE103 {s : Int} (H : aHyp s) : a103 s = (a102 s) % 60 := by
  have := aR102 H
  exact Int.tmod_eq_emod_of_nonneg (by omega)
theorem aR103 {s : Int} (H : aHyp s) : 0 ≤ a103 s ∧ a103 s ≤ 59 := by
  have := aE103 H
  have := aR102 H
  omega
theorem aF104 {s : Int} (H : aHyp s) : a104 s = Clk.fo (a103 s) := rfl
theorem aF105 {s : Int} (H : aHyp s) : a105 s = Clk.fo 0 := by
  unfold a105
  rw [aF100 H]
  rfl
theorem aF106 {s : Int} (H : aHyp s) : a106 s = some (Clk.fo ((a103 s) + 0)) := by
  have := aR103 H
  unfold a106
  rw [aF104 H, aF105 H]
  exact Clk.add_fo' _ _ (by omega) (by omega) (by omega)
theorem aE176 {s : Int} (H : aHyp s) : a176 s = (a57 s) / 146097 := rfl
theorem aR176 {s : Int} (H : aHyp s) : 0 ≤ a176 s ∧ a176 s ≤ 24 := by
  have := aE176 H
  have := aR57 H
  omega
theorem aE177 {s : Int} (H : aHyp s) : a177 s = (a176 s) := by
  have := aR176 H
  unfold a177
  exact wrap_id _ (by omega) (by omega)
theorem aR177 {s : Int} (H : aHyp s) : 0 ≤ a177 s ∧ a177 s ≤ 24 := by
  have := aE177 H
  have := aR176 H
  omega
theorem aE178 {s : Int} (H : aHyp s) : a178 s = (a177 s) * 400 := rfl
theorem aR178 {s : Int} (H : aHyp s) : 0 ≤ a178 s ∧ a178 s ≤ 9600 := by
  have := aE178 H
  have := aR177 H
  omega
theorem aE179 {s : Int} (H : aHyp s) : a179 s = (a178 s) := by
  have := aR178 H
  unfold a179
  exact wrap_id _ (by omega) (by omega)
theorem aR179 {s : Int} (H : aHyp s) : 0 ≤ a179 s ∧ a179 s ≤ 9600 := by
  have := aE179 H
  have := aR178 H
  omega
theorem aE180 {s : Int} (H : aHyp s) : a180 s = (a179 s) + (a72 s) := rfl
theorem aR180 {s : Int} (H : aHyp s) : 0 ≤ a180 s ∧ a180 s ≤ 9999 := by
  have := aE180 H
  have := aR179 H
  have := aR72 H
  omega
theorem aE181 {s : Int} (H : aHyp s) : a181 s = (a180 s) := by
  have := aR180 H
  unfold a181
  exact wrap_id _ (by omega) (by omega)
theorem aR181 {s : Int} (H : aHyp s) : 0 ≤ a181 s ∧ a181 s ≤ 9999 := by
  have := aE181 H
  have := aR180 H
  omega
theorem aE182 {s : Int} (H : aHyp s) : a182 s = (a181 s) + 1 := rfl
theorem aR182 {s : Int} (H : aHyp s) : 1 ≤ a182 s ∧ a182 s ≤ 10000 := by
  have := aE182 H
  have := aR181 H
  omega
theorem aE183 {s : Int} (H : aHyp s) : a183 s = (a182 s) := by
  have := aR182 H
  unfold a183
  exact wrap_id _ (by omega) (by omega)
theorem aR183 {s : Int} (H : aHyp s) : 1 ≤ a183 s ∧ a183 s ≤ 10000 := by
  have := aE183 H
  have := aR182 H
  omega
theorem aF184 {s : Int} (H : aHyp s) : a184 s = Clk.fo (a183 s) := rfl
theorem aE200 {s : Int} (H : aHyp s) : a200 s = (a90 s) - 10 := rfl
theorem aR200 {s : Int} (H : aHyp s) : 0 ≤ a200 s ∧ a200 s ≤ 1 := by
  have := aE200 H
  have := aR90 H
  omega
theorem aE201 {s : Int} (H : aHyp s) : a201 s = (a200 s) := by
  have := aR200 H
  unfold a201
  exact wrap_id _ (by omega) (by omega)
theorem aR201 {s : Int} (H : aHyp s) : 0 ≤ a201 s ∧ a201 s ≤ 1 := by
  have := aE201 H
  have := aR200 H
  omega
theorem aF202 {s : Int} (H : aHyp s) : a202 s = Clk.fo (a201 s) := rfl
theorem aE218 {s : Int} (H : aHyp s) : a218 s = 153 * (a90 s) := rfl
theorem aR218 {s : Int} (H : aHyp s) : 1530 ≤ a218 s ∧ a218 s ≤ 1683 := by
  have := aE218 H
  have := aR90 H
  omega
theorem aE219 {s : Int} (H : aHyp s) : a219 s = (a218 s) := by
  have := aR218 H
  unfold a219
  exact wrap_id _ (by omega) (by omega)
theorem aR219 {s : Int} (H : aHyp s) : 1530 ≤ a219 s ∧ a219 s ≤ 1683 := by
  have := aE219 H
  have := aR218 H
  omega
theorem aE220 {s : Int} (H : aHyp s) : a220 s = (a219 s) + 2 := rfl
theorem aR220 {s : Int} (H : aHyp s) : 1532 ≤ a220 s ∧ a220 s ≤ 1685 := by
  have := aE220 H
  have := aR219 H
  omega
theorem aE221 {s : Int} (H : aHyp s) : a221 s = (a220 s) := by
  have := aR220 H
  unfold a221
  exact wrap_id _ (by omega) (by omega)
theorem aR221 {s : Int} (H : aHyp s) : 1532 ≤ a221 s ∧ a221 s ≤ 1685 := by
  have := aE221 H
  have := aR220 H
  omega
theorem aE222 {s : Int} (H : aHyp s) : a222 s = (a221 s) / 5 := by
  have := aR221 H
  exact Int.tdiv_eq_ediv_of_nonneg (by omega)
theorem aR222 {s : Int} (H : aHyp s) : 306 ≤ a222 s ∧ a222 s ≤ 337 := by
  have := aE222 H
  have := aR221 H
  omega
theorem aE223 {s : Int} (H : aHyp s) : a223 s = (a222 s) := by
  have := aR222 H
  unfold a223
  exact wrap_id _ (by omega) (by omega)
theorem aR223 {s : Int} (H : aHyp s) : 306 ≤ a223 s ∧ a223 s ≤ 337 := by
  have := aE223 H
  have := aR222 H
  omega
theorem aE224 {s : Int} (H : aHyp s) : a224 s = (a84 s) - (a223 s) := rfl
theorem aR224 {s : Int} (H : aHyp s) : -337 ≤ a224 s ∧ a224 s ≤ 59 := by
  have := aE224 H
  have := aR84 H
  have := aR223 H
  omega
theorem aE225 {s : Int} (H : aHyp s) : a225 s = (a224 s) := by
  have := aR224 H
  unfold a225
  exact wrap_id _ (by omega) (by omega)
theorem aR225 {s : Int} (H : aHyp s) : -337 ≤ a225 s ∧ a225 s ≤ 59 := by
  have := aE225 H
  have := aR224 H
  omega
theorem aE226 {s : Int} (H : aHyp s) : a226 s = (a225 s) + 1 := rfl
theorem aR226 {s : Int} (H : aHyp s) : -336 ≤ a226 s ∧ a226 s ≤ 60 := by
  have := aE226 H
  have := aR225 H
  omega
theorem aE227 {s : Int} (H : aHyp s) : a227 s = (a226 s) := by
  have := aR226 H
  unfold a227
  exact wrap_id _ (by omega) (by omega)
theorem aR227 {s : Int} (H : aHyp s) : -336 ≤ a227 s ∧ a227 s ≤ 60 := by
  have := aE227 H
  have := aR226 H
  omega
theorem aF228 {s : Int} (H : aHyp s) : a228 s = Clk.fo (a227 s) := rfl
theorem aE244 {s : Int} (H : aHyp s) : a244 s = (a102 s) / 3600 := by
  have := aR102 H
  exact Int.tdiv_eq_ediv_of_nonneg (by omega)
theorem aR244 {s : Int} (H : aHyp s) : 0 ≤ a244 s ∧ a244 s ≤ 23 := by
  have := aE244 H
  have := aR102 H
  omega
theorem aE245 {s : Int} (H : aHyp s) : a245 s = (a244 s) := by
  have := aR244 H
  unfold a245
  exact wrap_id _ (by omega) (by omega)
theorem aR245 {s : Int} (H : aHyp s) : 0 ≤ a245 s ∧ a245 s ≤ 23 := by
  have := aE245 H
  have := aR244 H
  omega
theorem aF246 {s : Int} (H : aHyp s) : a246 s = Clk.fo (a245 s) := rfl
theorem aE262 {s : Int} (H : aHyp s) : a262 s = (a102 s) / 60 := by
  have := aR102 H
  exact Int.tdiv_eq_ediv_of_nonneg (by omega)
theorem aR262 {s : Int} (H : aHyp s) : 0 ≤ a262 s ∧ a262 s ≤ 1439 := by
  have := aE262 H
  have := aR102 H
  omega
theorem aE263 {s : Int} (H : aHyp s) : a263 s = (a262 s) := by
  have := aR262 H
  unfold a263
  exact wrap_id _ (by omega) (by omega)
theorem aR263 {s : Int} (H : aHyp s) : 0 ≤ a263 s ∧ a263 s ≤ 1439 := by
  have := aE263 H
  have := aR262 H
  omega
theorem aE264 {s : Int} (H : aHyp s) : a264 s = (a263 s) % 60 := by
  have := aR263 H
  exact Int.tmod_eq_emod_of_nonneg (by omega)
theorem aR264 {s : Int} (H : aHyp s) : 0 ≤ a264 s ∧ a264 s ≤ 59 := by
  have := aE264 H
  have := aR263 H
  omega
theorem aF265 {s : Int} (H : aHyp s) : a265 s = Clk.fo (a264 s) := rfl
theorem aE281 {s : Int} (H : aHyp s) : a281 s = (a183 s) := by
  have := aR183 H
  unfold a281
  rw [aF184 H]
  exact Clk.f2i_fo _ (by omega)
theorem aR281 {s : Int} (H : aHyp s) : 1 ≤ a281 s ∧ a281 s ≤ 10000 := by
  have := aE281 H
  have := aR183 H
  omega
theorem aE289 {s : Int} (H : aHyp s) : a289 s = (a201 s) := by
  have := aR201 H
  unfold a289
  rw [aF202 H]
  exact Clk.f2i_fo _ (by omega)
theorem aR289 {s : Int} (H : aHyp s) : 0 ≤ a289 s ∧ a289 s ≤ 1 := by
  have := aE289 H
  have := aR201 H
  omega
theorem aE296 {s : Int} (H : aHyp s) : a296 s = (a227 s) := by
  have := aR227 H
  unfold a296
  rw [aF228 H]
  exact Clk.f2i_fo _ (by omega)
theorem aDay {s : Int} (H : aHyp s) : (a296 s) = Clk.dateDay (a32 s) := by
  have := aM H; have := aDoy H
  have := aE218 H
  have := aE219 H
  have := aE220 H
  have := aE221 H
  have := aE222 H
  have := aE223 H
  have := aE224 H
  have := aE225 H
  have := aE226 H
  have := aE227 H
  have := aE296 H
  unfold Clk.dateDay
  omega
theorem aR296 {s : Int} (H : aHyp s) : -336 ≤ a296 s ∧ a296 s ≤ 60 := by
  have := aE296 H
  have := aR227 H
  omega
theorem aE303 {s : Int} (H : aHyp s) : a303 s = (a245 s) := by
  have := aR245 H
  unfold a303
  rw [aF246 H]
  exact Clk.f2i_fo _ (by omega)
theorem aR303 {s : Int} (H : aHyp s) : 0 ≤ a303 s ∧ a303 s ≤ 23 := by
  have := aE303 H
  have := aR245 H
  omega
theorem aE310 {s : Int} (H : aHyp s) : a310 s = (a264 s) := by
  have := aR264 H
  unfold a310
  rw [aF265 H]
  exact Clk.f2i_fo _ (by omega)
theorem aR310 {s : Int} (H : aHyp s) : 0 ≤ a310 s ∧ a310 s ≤ 59 := by
  have := aE310 H
  have := aR264 H
  omega
theorem aE317 {s : Int} (H : aHyp s) : a317 s = (a289 s) / 12 := rfl
theorem aR317 {s : Int} (H : aHyp s) : 0 ≤ a317 s ∧ a317 s ≤ 0 := by
  have := aE317 H
  have := aR289 H
  omega
theorem aE318 {s : Int} (H : aHyp s) : a318 s = (a317 s) := by
  have := aR317 H
  unfold a318
  exact wrap_id _ (by omega) (by omega)
theorem aR318 {s : Int} (H : aHyp s) : 0 ≤ a318 s ∧ a318 s ≤ 0 := by
  have := aE318 H
  have := aR317 H
  omega
theorem aE319 {s : Int} (H : aHyp s) : a319 s = (a281 s) + (a318 s) := rfl
theorem aR319 {s : Int} (H : aHyp s) : 1 ≤ a319 s ∧ a319 s ≤ 10000 := by
  have := aE319 H
  have := aR281 H
  have := aR318 H
  omega
theorem aE320 {s : Int} (H : aHyp s) : a320 s = (a319 s) := by
  have := aR319 H
  unfold a320
  exact wrap_id _ (by omega) (by omega)
theorem aYear {s : Int} (H : aHyp s) : (a320 s) = Clk.dateYear (a32 s) := by
  have := aY H; have := aM H; have := H.hm
  have := aR201 H
  have := aE176 H
  have := aE177 H
  have := aE178 H
  have := aE179 H
  have := aE180 H
  have := aE181 H
  have := aE182 H
  have := aE183 H
  have := aE200 H
  have := aE201 H
  have := aE281 H
  have := aE289 H
  have := aE296 H
  have := aE303 H
  have := aE310 H
  have := aE317 H
  have := aE318 H
  have := aE319 H
  have := aE320 H
  have := aE56 H; have := aE57 H; have := aE58 H
  unfold Clk.dateYear Clk.dateCyc
  rw [if_pos (by omega)]
  omega
theorem aR320 {s : Int} (H : aHyp s) : -9999 ≤ a320 s ∧ a320 s ≤ 9999 := by
  have := aYear H
  have := aR32 H
  have := Clk.dateYear_range (a32 s) (by omega) (by omega)
  omega
theorem aF328 {s : Int} (H : aHyp s) : a328 s = Clk.fo ((a103 s) + 0) := by
  unfold a328
  rw [aF106 H]
  rfl
theorem aF338 {s : Int} (H : aHyp s) : a338 s = Clk.fo ((((a103 s) + 0)).natAbs : Int) := by
  have := aR103 H
  unfold a338 a337 a336 a335 a332
  rw [aF328 H]
  exact Clk.abs_fo _ (by omega)
theorem aE342 {s : Int} (H : aHyp s) : a342 s = (a289 s) % 12 := rfl
theorem aMonth {s : Int} (H : aHyp s) : (a342 s) = Clk.dateMonth (a32 s) := by
  have := aM H; have := H.hm
  have := aR201 H
  have := aE200 H
  have := aE201 H
  have := aE289 H
  have := aE296 H
  have := aE303 H
  have := aE310 H
  have := aE317 H
  have := aE318 H
  have := aE319 H
  have := aE320 H
  have := aE342 H
  unfold Clk.dateMonth
  rw [if_pos (by omega)]
  omega
theorem aR342 {s : Int} (H : aHyp s) : 0 ≤ a342 s ∧ a342 s ≤ 1 := by
  have := aR201 H; have := aE289 H; have := aE342 H
  omega
theorem aF347 {s : Int} (H : aHyp s) : a347 s = Clk.fo ((a103 s) + 0) := by
  have := aR103 H
  unfold a347
  rw [aF328 H]
  exact Clk.fround_fo _ (by omega)
theorem aE349 {s : Int} (H : aHyp s) : a349 s = (a320 s) - 1 := rfl
theorem aR349 {s : Int} (H : aHyp s) : -10000 ≤ a349 s ∧ a349 s ≤ 9998 := by
  have := aE349 H
  have := aR320 H
  omega
theorem aE350 {s : Int} (H : aHyp s) : a350 s = (a349 s) := by
  have := aR349 H
  unfold a350
  exact wrap_id _ (by omega) (by omega)
theorem aR350 {s : Int} (H : aHyp s) : -10000 ≤ a350 s ∧ a350 s ≤ 9998 := by
  have := aE350 H
  have := aR349 H
  omega
theorem aE351 {s : Int} (H : aHyp s) : a351 s = (a350 s) / 400 := rfl
theorem aR351 {s : Int} (H : aHyp s) : -25 ≤ a351 s ∧ a351 s ≤ 24 := by
  have := aE351 H
  have := aR350 H
  omega
theorem aE352 {s : Int} (H : aHyp s) : a352 s = (a351 s) := by
  have := aR351 H
  unfold a352
  exact wrap_id _ (by omega) (by omega)
theorem aR352 {s : Int} (H : aHyp s) : -25 ≤ a352 s ∧ a352 s ≤ 24 := by
  have := aE352 H
  have := aR351 H
  omega
theorem aE353 {s : Int} (H : aHyp s) : a353 s = (a352 s) * 146097 := rfl
theorem aR353 {s : Int} (H : aHyp s) : -3652425 ≤ a353 s ∧ a353 s ≤ 3506328 := by
  have := aE353 H
  have := aR352 H
  omega
theorem aE354 {s : Int} (H : aHyp s) : a354 s = (a353 s) := by
  have := aR353 H
  unfold a354
  exact wrap_id _ (by omega) (by omega)
theorem aR354 {s : Int} (H : aHyp s) : -3652425 ≤ a354 s ∧ a354 s ≤ 3506328 := by
  have := aE354 H
  have := aR353 H
  omega
theorem aE355 {s : Int} (H : aHyp s) : a355 s = (a350 s) % 400 := rfl
theorem aR355 {s : Int} (H : aHyp s) : 0 ≤ a355 s ∧ a355 s ≤ 399 := by
  have := aE355 H
  have := aR350 H
  omega
theorem aE356 {s : Int} (H : aHyp s) : a356 s = (a355 s) * 365 := rfl
theorem aR356 {s : Int} (H : aHyp s) : 0 ≤ a356 s ∧ a356 s ≤ 145635 := by
  have := aE356 H
  have := aR355 H
  omega
theorem aE357 {s : Int} (H : aHyp s) : a357 s = (a356 s) := by
  have := aR356 H
  unfold a357
  exact wrap_id _ (by omega) (by omega)
theorem aR357 {s : Int} (H : aHyp s) : 0 ≤ a357 s ∧ a357 s ≤ 145635 := by
  have := aE357 H
  have := aR356 H
  omega
theorem aE358 {s : Int} (H : aHyp s) : a358 s = (a354 s) + (a357 s) := rfl
theorem aR358 {s : Int} (H : aHyp s) : -3652425 ≤ a358 s ∧ a358 s ≤ 3651963 := by
  have := aE358 H
  have := aR354 H
  have := aR357 H
  omega
theorem aE359 {s : Int} (H : aHyp s) : a359 s = (a358 s) := by
  have := aR358 H
  unfold a359
  exact wrap_id _ (by omega) (by omega)
theorem aR359 {s : Int} (H : aHyp s) : -3652425 ≤ a359 s ∧ a359 s ≤ 3651963 := by
  have := aE359 H
  have := aR358 H
  omega
theorem aE360 {s : Int} (H : aHyp s) : a360 s = (a355 s) / 4 := by
  have := aR355 H
  exact Int.tdiv_eq_ediv_of_nonneg (by omega)
theorem aR360 {s : Int} (H : aHyp s) : 0 ≤ a360 s ∧ a360 s ≤ 99 := by
  have := aE360 H
  have := aR355 H
  omega
theorem aE361 {s : Int} (H : aHyp s) : a361 s = (a360 s) := by
  have := aR360 H
  unfold a361
  exact wrap_id _ (by omega) (by omega)
theorem aR361 {s : Int} (H : aHyp s) : 0 ≤ a361 s ∧ a361 s ≤ 99 := by
  have := aE361 H
  have := aR360 H
  omega
theorem aE362 {s : Int} (H : aHyp s) : a362 s = (a359 s) + (a361 s) := rfl
theorem aR362 {s : Int} (H : aHyp s) : -3652425 ≤ a362 s ∧ a362 s ≤ 3652062 := by
  have := aE362 H
  have := aR359 H
  have := aR361 H
  omega
theorem aE363 {s : Int} (H : aHyp s) : a363 s = (a362 s) := by
  have := aR362 H
  unfold a363
  exact wrap_id _ (by omega) (by omega)
theorem aR363 {s : Int} (H : aHyp s) : -3652425 ≤ a363 s ∧ a363 s ≤ 3652062 := by
  have := aE363 H
  have := aR362 H
  omega
theorem aE364 {s : Int} (H : aHyp s) : a364 s = (a355 s) / 100 := by
  have := aR355 H
  exact Int.tdiv_eq_ediv_of_nonneg (by omega)
theorem aR364 {s : Int} (H : aHyp s) : 0 ≤ a364 s ∧ a364 s ≤ 3 := by
  have := aE364 H
  have := aR355 H
  omega
theorem aE365 {s : Int} (H : aHyp s) : a365 s = (a364 s) := by
  have := aR364 H
  unfold a365
  exact wrap_id _ (by omega) (by omega)
theorem aR365 {s : Int} (H : aHyp s) : 0 ≤ a365 s ∧ a365 s ≤ 3 := by
  have := aE365 H
  have := aR364 H
  omega
theorem aE366 {s : Int} (H : aHyp s) : a366 s = (a363 s) - (a365 s) := rfl
theorem aR366 {s : Int} (H : aHyp s) : -3652428 ≤ a366 s ∧ a366 s ≤ 3652062 := by
  have := aE366 H
  have := aR363 H
  have := aR365 H
  omega
theorem aE367 {s : Int} (H : aHyp s) : a367 s = (a366 s) := by
  have := aR366 H
  unfold a367
  exact wrap_id _ (by omega) (by omega)
theorem aR367 {s : Int} (H : aHyp s) : -3652428 ≤ a367 s ∧ a367 s ≤ 3652062 := by
  have := aE367 H
  have := aR366 H
  omega
theorem aE368 {s : Int} (H : aHyp s) : a368 s = (a342 s) + 10 := rfl
theorem aR368 {s : Int} (H : aHyp s) : 10 ≤ a368 s ∧ a368 s ≤ 11 := by
  have := aE368 H
  have := aR342 H
  omega
theorem aE369 {s : Int} (H : aHyp s) : a369 s = (a368 s) := by
  have := aR368 H
  unfold a369
  exact wrap_id _ (by omega) (by omega)
theorem aR369 {s : Int} (H : aHyp s) : 10 ≤ a369 s ∧ a369 s ≤ 11 := by
  have := aE369 H
  have := aR368 H
  omega
theorem aE370 {s : Int} (H : aHyp s) : a370 s = (a369 s) % 12 := by
  have := aR369 H
  exact Int.tmod_eq_emod_of_nonneg (by omega)
theorem aR370 {s : Int} (H : aHyp s) : 0 ≤ a370 s ∧ a370 s ≤ 11 := by
  have := aE370 H
  have := aR369 H
  omega
theorem aE371 {s : Int} (H : aHyp s) : a371 s = 153 * (a370 s) := rfl
theorem aR371 {s : Int} (H : aHyp s) : 0 ≤ a371 s ∧ a371 s ≤ 1683 := by
  have := aE371 H
  have := aR370 H
  omega
theorem aE372 {s : Int} (H : aHyp s) : a372 s = (a371 s) := by
  have := aR371 H
  unfold a372
  exact wrap_id _ (by omega) (by omega)
theorem aR372 {s : Int} (H : aHyp s) : 0 ≤ a372 s ∧ a372 s ≤ 1683 := by
  have := aE372 H
  have := aR371 H
  omega
theorem aE373 {s : Int} (H : aHyp s) : a373 s = (a372 s) + 2 := rfl
theorem aR373 {s : Int} (H : aHyp s) : 2 ≤ a373 s ∧ a373 s ≤ 1685 := by
  have := aE373 H
  have := aR372 H
  omega
theorem aE374 {s : Int} (H : aHyp s) : a374 s = (a373 s) := by
  have := aR373 H
  unfold a374
  exact wrap_id _ (by omega) (by omega)
theorem aR374 {s : Int} (H : aHyp s) : 2 ≤ a374 s ∧ a374 s ≤ 1685 := by
  have := aE374 H
  have := aR373 H
  omega
theorem aE375 {s : Int} (H : aHyp s) : a375 s = (a374 s) / 5 := by
  have := aR374 H
  exact Int.tdiv_eq_ediv_of_nonneg (by omega)
theorem aR375 {s : Int} (H : aHyp s) : 0 ≤ a375 s ∧ a375 s ≤ 337 := by
  have := aE375 H
  have := aR374 H
  omega
theorem aE376 {s : Int} (H : aHyp s) : a376 s = (a375 s) := by
  have := aR375 H
  unfold a376
  exact wrap_id _ (by omega) (by omega)
theorem aR376 {s : Int} (H : aHyp s) : 0 ≤ a376 s ∧ a376 s ≤ 337 := by
  have := aE376 H
  have := aR375 H
  omega
theorem aE377 {s : Int} (H : aHyp s) : a377 s = (a367 s) + (a376 s) := rfl
theorem aR377 {s : Int} (H : aHyp s) : -3652428 ≤ a377 s ∧ a377 s ≤ 3652399 := by
  have := aE377 H
  have := aR367 H
  have := aR376 H
  omega
theorem aE378 {s : Int} (H : aHyp s) : a378 s = (a377 s) := by
  have := aR377 H
  unfold a378
  exact wrap_id _ (by omega) (by omega)
theorem aR378 {s : Int} (H : aHyp s) : -3652428 ≤ a378 s ∧ a378 s ≤ 3652399 := by
  have := aE378 H
  have := aR377 H
  omega
theorem aE379 {s : Int} (H : aHyp s) : a379 s = (a378 s) + 1 := rfl
theorem aR379 {s : Int} (H : aHyp s) : -3652427 ≤ a379 s ∧ a379 s ≤ 3652400 := by
  have := aE379 H
  have := aR378 H
  omega
theorem aE380 {s : Int} (H : aHyp s) : a380 s = (a379 s) := by
  have := aR379 H
  unfold a380
  exact wrap_id _ (by omega) (by omega)
theorem aR380 {s : Int} (H : aHyp s) : -3652427 ≤ a380 s ∧ a380 s ≤ 3652400 := by
  have := aE380 H
  have := aR379 H
  omega
theorem aE381 {s : Int} (H : aHyp s) : a381 s = (a380 s) - 1 := rfl
theorem aR381 {s : Int} (H : aHyp s) : -3652428 ≤ a381 s ∧ a381 s ≤ 3652399 := by
  have := aE381 H
  have := aR380 H
  omega
theorem aE382 {s : Int} (H : aHyp s) : a382 s = (a381 s) := by
  have := aR381 H
  unfold a382
  exact wrap_id _ (by omega) (by omega)
theorem aR382 {s : Int} (H : aHyp s) : -3652428 ≤ a382 s ∧ a382 s ≤ 3652399 := by
  have := aE382 H
  have := aR381 H
  omega
theorem aE383 {s : Int} (H : aHyp s) : a383 s = (a382 s) - 719468 := rfl
theorem aR383 {s : Int} (H : aHyp s) : -4371896 ≤ a383 s ∧ a383 s ≤ 2932931 := by
  have := aE383 H
  have := aR382 H
  omega
theorem aE384 {s : Int} (H : aHyp s) : a384 s = (a383 s) := by
  have := aR383 H
  unfold a384
  exact wrap_id _ (by omega) (by omega)
theorem aNum {s : Int} (H : aHyp s) : (a384 s) = Clk.number (a320 s) (a342 s) 1 := by
  have := aR342 H; have := H.hm
  have := aE349 H
  have := aE350 H
  have := aE351 H
  have := aE352 H
  have := aE353 H
  have := aE354 H
  have := aE355 H
  have := aE356 H
  have := aE357 H
  have := aE358 H
  have := aE359 H
  have := aE360 H
  have := aE361 H
  have := aE362 H
  have := aE363 H
  have := aE364 H
  have := aE365 H
  have := aE366 H
  have := aE367 H
  have := aE368 H
  have := aE369 H
  have := aE370 H
  have := aE371 H
  have := aE372 H
  have := aE373 H
  have := aE374 H
  have := aE375 H
  have := aE376 H
  have := aE377 H
  have := aE378 H
  have := aE379 H
  have := aE380 H
  have := aE381 H
  have := aE382 H
  have := aE383 H
  have := aE384 H
  have hq : ((a342 s) + 10) % 12 = (a342 s) + 10 := by omega
  unfold Clk.number
  rw [if_pos (by omega)]
  simp only
  rw [hq]
  omega
theorem aR384 {s : Int} (H : aHyp s) : -4371896 ≤ a384 s ∧ a384 s ≤ 2932931 := by
  have := aE384 H
  have := aR383 H
  omega
theorem aE385 {s : Int} (H : aHyp s) : a385 s = (a384 s) + (a296 s) := rfl
theorem aR385 {s : Int} (H : aHyp s) : -4372232 ≤ a385 s ∧ a385 s ≤ 2932991 := by
  have := aE385 H
  have := aR384 H
  have := aR296 H
  omega
theorem aE386 {s : Int} (H : aHyp s) : a386 s = (a385 s) := by
  have := aR385 H
  unfold a386
  exact wrap_id _ (by omega) (by omega)
theorem aR386 {s : Int} (H : aHyp s) : -4372232 ≤ a386 s ∧ a386 s ≤ 2932991 := by
  have := aE386 H
  have := aR385 H
  omega
theorem aE387 {s : Int} (H : aHyp s) : a387 s = (a386 s) - 1 := rfl
theorem aR387 {s : Int} (H : aHyp s) : -4372233 ≤ a387 s ∧ a387 s ≤ 2932990 := by
  have := aE387 H
  have := aR386 H
  omega
theorem aE388 {s : Int} (H : aHyp s) : a388 s = (a387 s) := by
  have := aR387 H
  unfold a388
  exact wrap_id _ (by omega) (by omega)
theorem aR388 {s : Int} (H : aHyp s) : -4372233 ≤ a388 s ∧ a388 s ≤ 2932990 := by
  have := aE388 H
  have := aR387 H
  omega
theorem aE389 {s : Int} (H : aHyp s) : a389 s = (a388 s) * 86400 := rfl
theorem aR389 {s : Int} (H : aHyp s) : -377760931200 ≤ a389 s ∧ a389 s ≤ 253410336000 := by
  have := aE389 H
  have := aR388 H
  omega
theorem aE390 {s : Int} (H : aHyp s) : a390 s = (a389 s) := by
  have := aR389 H
  unfold a390
  exact wrap_id _ (by omega) (by omega)
theorem aR390 {s : Int} (H : aHyp s) : -377760931200 ≤ a390 s ∧ a390 s ≤ 253410336000 := by
  have := aE390 H
  have := aR389 H
  omega
theorem aE391 {s : Int} (H : aHyp s) : a391 s = (a303 s) * 3600 := rfl
theorem aR391 {s : Int} (H : aHyp s) : 0 ≤ a391 s ∧ a391 s ≤ 82800 := by
  have := aE391 H
  have := aR303 H
  omega
theorem aE392 {s : Int} (H : aHyp s) : a392 s = (a391 s) := by
  have := aR391 H
  unfold a392
  exact wrap_id _ (by omega) (by omega)
theorem aR392 {s : Int} (H : aHyp s) : 0 ≤ a392 s ∧ a392 s ≤ 82800 := by
  have := aE392 H
  have := aR391 H
  omega
theorem aE393 {s : Int} (H : aHyp s) : a393 s = (a390 s) + (a392 s) := rfl
theorem aR393 {s : Int} (H : aHyp s) : -377760931200 ≤ a393 s ∧ a393 s ≤ 253410418800 := by
  have := aE393 H
  have := aR390 H
  have := aR392 H
  omega
theorem aE394 {s : Int} (H : aHyp s) : a394 s = (a393 s) := by
  have := aR393 H
  unfold a394
  exact wrap_id _ (by omega) (by omega)
theorem aR394 {s : Int} (H : aHyp s) : -377760931200 ≤ a394 s ∧ a394 s ≤ 253410418800 := by
  have := aE394 H
  have := aR393 H
  omega
theorem aE395 {s : Int} (H : aHyp s) : a395 s = (a310 s) * 60 := rfl
theorem aR395 {s : Int} (H : aHyp s) : 0 ≤ a395 s ∧ a395 s ≤ 3540 := by
  have := aE395 H
  have := aR310 H
  omega
theorem aE396 {s : Int} (H : aHyp s) : a396 s = (a395 s) := by
  have := aR395 H
  unfold a396
  exact wrap_id _ (by omega) (by omega)
theorem aR396 {s : Int} (H : aHyp s) : 0 ≤ a396 s ∧ a396 s ≤ 3540 := by
  have := aE396 H
  have := aR395 H
  omega
theorem aE397 {s : Int} (H : aHyp s) : a397 s = (a394 s) + (a396 s) := rfl
theorem aR397 {s : Int} (H : aHyp s) : -377760931200 ≤ a397 s ∧ a397 s ≤ 253410422340 := by
  have := aE397 H
  have := aR394 H
  have := aR396 H
  omega
theorem aE398 {s : Int} (H : aHyp s) : a398 s = (a397 s) := by
  have := aR397 H
  unfold a398
  exact wrap_id _ (by omega) (by omega)
theorem aR398 {s : Int} (H : aHyp s) : -377760931200 ≤ a398 s ∧ a398 s ≤ 253410422340 := by
  have := aE398 H
  have := aR397 H
  omega
theorem aE399 {s : Int} (H : aHyp s) : a399 s = ((a103 s) + 0) := by
  have := aR103 H
  unfold a399
  rw [aF347 H]
  exact Clk.f2i_fo _ (by omega)
theorem aR399 {s : Int} (H : aHyp s) : 0 ≤ a399 s ∧ a399 s ≤ 59 := by
  have := aE399 H
  have := aR103 H
  omega
theorem aE400 {s : Int} (H : aHyp s) : a400 s = (a398 s) + (a399 s) := rfl
theorem aR400 {s : Int} (H : aHyp s) : -377760931200 ≤ a400 s ∧ a400 s ≤ 253410422399 := by
  have := aE400 H
  have := aR398 H
  have := aR399 H
  omega
theorem aE401 {s : Int} (H : aHyp s) : a401 s = (a400 s) := by
  have := aR400 H
  unfold a401
  exact wrap_id _ (by omega) (by omega)
theorem aTot {s : Int} (H : aHyp s) : (a401 s) = s := by
  have := aE385 H
  have := aE386 H
  have := aE387 H
  have := aE388 H
  have := aE389 H
  have := aE390 H
  have := aE391 H
  have := aE392 H
  have := aE393 H
  have := aE394 H
  have := aE395 H
  have := aE396 H
  have := aE397 H
  have := aE398 H
  have := aE399 H
  have := aE400 H
  have := aE401 H
  have := aE303 H
  have := aE310 H
  have := aE244 H
  have := aE245 H
  have := aE262 H
  have := aE263 H
  have := aE264 H
  have := aE30 H; have := aE31 H; have := aE32 H; have := aE102 H; have := aE103 H
  have hn := aNum H
  have h1 := aYear H
  have h2 := aMonth H
  have h3 := aDay H
  rw [h1, h2] at hn
  have h4 := Clk.number_day (Clk.dateYear (a32 s)) (Clk.dateMonth (a32 s)) (Clk.dateDay (a32 s))
  rw [Clk.number_date] at h4
  omega
theorem aR401 {s : Int} (H : aHyp s) : -62135596800 ≤ a401 s ∧ a401 s ≤ 253402300799 := by
  have := aTot H
  have := H.h0; have := H.h1
  omega
theorem aE402 {s : Int} (H : aHyp s) : a402 s = (a401 s) / 86400 := rfl
theorem aR402 {s : Int} (H : aHyp s) : -719162 ≤ a402 s ∧ a402 s ≤ 2932896 := by
  have := aE402 H
  have := aR401 H
  omega
theorem aE403 {s : Int} (H : aHyp s) : a403 s = (a402 s) := by
  have := aR402 H
  unfold a403
  exact wrap_id _ (by omega) (by omega)
theorem aR403 {s : Int} (H : aHyp s) : -719162 ≤ a403 s ∧ a403 s ≤ 2932896 := by
  have := aE403 H
  have := aR402 H
  omega
theorem aF414 {s : Int} (H : aHyp s) : a414 s = Clk.fo (a401 s) := rfl
theorem aC11 {s : Int} (H : aHyp s) : (Go.Ev.froundOk (a10 s)) = true := by
  have := H.h0; have := H.h1
  rw [aF10 H]
  exact Clk.froundOk_fo _ (by omega)
theorem aC16 {s : Int} (H : aHyp s) : (((a14 s) != (Option.some Ordering.eq)) == false) = true := by
  have := H.h0; have := H.h1
  unfold a14
  rw [aF13 H, Clk.ord_self _ (by omega)]
  rfl
theorem aC28 {s : Int} (H : aHyp s) : (((a26 s) == (Option.some Ordering.gt)) == false) = true := by
  have := H.h0; have := H.h1
  unfold a26
  rw [aF25 H, Clk.ord_1e12 _ (by omega) (by omega)]
  rfl
theorem aC29 {s : Int} (H : aHyp s) : (Go.Ev.f2iOk Go.FloatKind.f64 (a13 s) Go.IntKind.i64) = true := by
  have := H.h0; have := H.h1
  rw [aF13 H]
  exact Clk.f2iOk_fo _ (by omega)
theorem aC36 {s : Int} (H : aHyp s) : ((decide ((a32 s) < ((-4371587 : Int)))) == false) = true := by
  have := aR32 H
  simp only [beq_iff_eq, decide_eq_false_iff_not, decide_eq_true_eq]
  omega
theorem aC39 {s : Int} (H : aHyp s) : ((decide ((a32 s) > 2932896)) == false) = true := by
  have := aR32 H
  simp only [beq_iff_eq, decide_eq_false_iff_not, decide_eq_true_eq]
  omega
theorem aC93 {s : Int} (H : aHyp s) : ((decide ((a90 s) ≥ 10)) == true) = true := by
  have := aR90 H
  simp only [beq_iff_eq, decide_eq_false_iff_not, decide_eq_true_eq]
  omega
theorem aC101 {s : Int} (H : aHyp s) : (Option.isSome (a100 s)) = true := by
  rw [aF100 H]
  rfl
theorem aC107 {s : Int} (H : aHyp s) : (Option.isSome (a106 s)) = true := by
  rw [aF106 H]
  rfl
theorem aC187 {s : Int} (H : aHyp s) : (((a185 s) != (Option.some Ordering.eq)) == false) = true := by
  have := aR183 H
  unfold a185
  rw [aF184 H, Clk.ord_self _ (by omega)]
  rfl
theorem aC192 {s : Int} (H : aHyp s) : ((((a188 s) == (Option.some Ordering.gt)) || ((a188 s) == (Option.some Ordering.eq))) == false) = true := by
  have := aR183 H
  unfold a188
  rw [aF184 H, Clk.ord_p63 _ (by omega)]
  rfl
theorem aC195 {s : Int} (H : aHyp s) : (((a193 s) == (Option.some Ordering.lt)) == false) = true := by
  have := aR183 H
  unfold a193
  rw [aF184 H, Clk.ord_m63 _ (by omega)]
  rfl
theorem aC196 {s : Int} (H : aHyp s) : (Go.Ev.f2iOk Go.FloatKind.f64 (a184 s) Go.IntKind.i64) = true := by
  have := aR183 H
  rw [aF184 H]
  exact Clk.f2iOk_fo _ (by omega)
theorem aC205 {s : Int} (H : aHyp s) : (((a203 s) != (Option.some Ordering.eq)) == false) = true := by
  have := aR201 H
  unfold a203
  rw [aF202 H, Clk.ord_self _ (by omega)]
  rfl
theorem aC210 {s : Int} (H : aHyp s) : ((((a206 s) == (Option.some Ordering.gt)) || ((a206 s) == (Option.some Ordering.eq))) == false) = true := by
  have := aR201 H
  unfold a206
  rw [aF202 H, Clk.ord_p63 _ (by omega)]
  rfl
theorem aC213 {s : Int} (H : aHyp s) : (((a211 s) == (Option.some Ordering.lt)) == false) = true := by
  have := aR201 H
  unfold a211
  rw [aF202 H, Clk.ord_m63 _ (by omega)]
  rfl
theorem aC214 {s : Int} (H : aHyp s) : (Go.Ev.f2iOk Go.FloatKind.f64 (a202 s) Go.IntKind.i64) = true := by
  have := aR201 H
  rw [aF202 H]
  exact Clk.f2iOk_fo _ (by omega)
theorem aC231 {s : Int} (H : aHyp s) : (((a229 s) != (Option.some Ordering.eq)) == false) = true := by
  have := aR227 H
  unfold a229
  rw [aF228 H, Clk.ord_self _ (by omega)]
  rfl
theorem aC236 {s : Int} (H : aHyp s) : ((((a232 s) == (Option.some Ordering.gt)) || ((a232 s) == (Option.some Ordering.eq))) == false) = true := by
  have := aR227 H
  unfold a232
  rw [aF228 H, Clk.ord_p63 _ (by omega)]
  rfl
theorem aC239 {s : Int} (H : aHyp s) : (((a237 s) == (Option.some Ordering.lt)) == false) = true := by
  have := aR227 H
  unfold a237
  rw [aF228 H, Clk.ord_m63 _ (by omega)]
  rfl
theorem aC240 {s : Int} (H : aHyp s) : (Go.Ev.f2iOk Go.FloatKind.f64 (a228 s) Go.IntKind.i64) = true := by
  have := aR227 H
  rw [aF228 H]
  exact Clk.f2iOk_fo _ (by omega)
theorem aC249 {s : Int} (H : aHyp s) : (((a247 s) != (Option.some Ordering.eq)) == false) = true := by
  have := aR245 H
  unfold a247
  rw [aF246 H, Clk.ord_self _ (by omega)]
  rfl
theorem aC254 {s : Int} (H : aHyp s) : ((((a250 s) == (Option.some Ordering.gt)) || ((a250 s) == (Option.some Ordering.eq))) == false) = true := by
  have := aR245 H
  unfold a250
  rw [aF246 H, Clk.ord_p63 _ (by omega)]
  rfl
theorem aC257 {s : Int} (H : aHyp s) : (((a255 s) == (Option.some Ordering.lt)) == false) = true := by
  have := aR245 H
  unfold a255
  rw [aF246 H, Clk.ord_m63 _ (by omega)]
  rfl
theorem aC258 {s : Int} (H : aHyp s) : (Go.Ev.f2iOk Go.FloatKind.f64 (a246 s) Go.IntKind.i64) = true := by
  have := aR245 H
  rw [aF246 H]
  exact Clk.f2iOk_fo _ (by omega)
theorem aC268 {s : Int} (H : aHyp s) : (((a266 s) != (Option.some Ordering.eq)) == false) = true := by
  have := aR264 H
  unfold a266
  rw [aF265 H, Clk.ord_self _ (by omega)]
  rfl
theorem aC273 {s : Int} (H : aHyp s) : ((((a269 s) == (Option.some Ordering.gt)) || ((a269 s) == (Option.some Ordering.eq))) == false) = true := by
  have := aR264 H
  unfold a269
  rw [aF265 H, Clk.ord_p63 _ (by omega)]
  rfl
theorem aC276 {s : Int} (H : aHyp s) : (((a274 s) == (Option.some Ordering.lt)) == false) = true := by
  have := aR264 H
  unfold a274
  rw [aF265 H, Clk.ord_m63 _ (by omega)]
  rfl
theorem aC277 {s : Int} (H : aHyp s) : (Go.Ev.f2iOk Go.FloatKind.f64 (a265 s) Go.IntKind.i64) = true := by
  have := aR264 H
  rw [aF265 H]
  exact Clk.f2iOk_fo _ (by omega)
theorem aC285 {s : Int} (H : aHyp s) : ((decide ((a281 s) < ((-1000000000 : Int)))) == false) = true := by
  have := aR281 H
  simp only [beq_iff_eq, decide_eq_false_iff_not, decide_eq_true_eq]
  omega
theorem aC288 {s : Int} (H : aHyp s) : ((decide ((a281 s) > 1000000000)) == false) = true := by
  have := aR281 H
  simp only [beq_iff_eq, decide_eq_false_iff_not, decide_eq_true_eq]
  omega
theorem aC292 {s : Int} (H : aHyp s) : ((decide ((a289 s) < ((-1000000000 : Int)))) == false) = true := by
  have := aR289 H
  simp only [beq_iff_eq, decide_eq_false_iff_not, decide_eq_true_eq]
  omega
theorem aC295 {s : Int} (H : aHyp s) : ((decide ((a289 s) > 1000000000)) == false) = true := by
  have := aR289 H
  simp only [beq_iff_eq, decide_eq_false_iff_not, decide_eq_true_eq]
  omega
theorem aC299 {s : Int} (H : aHyp s) : ((decide ((a296 s) < ((-1000000000 : Int)))) == false) = true := by
  have := aR296 H
  simp only [beq_iff_eq, decide_eq_false_iff_not, decide_eq_true_eq]
  omega
theorem aC302 {s : Int} (H : aHyp s) : ((decide ((a296 s) > 1000000000)) == false) = true := by
  have := aR296 H
  simp only [beq_iff_eq, decide_eq_false_iff_not, decide_eq_true_eq]
  omega
theorem aC306 {s : Int} (H : aHyp s) : ((decide ((a303 s) < ((-1000000000 : Int)))) == false) = true := by
  have := aR303 H
  simp only [beq_iff_eq, decide_eq_false_iff_not, decide_eq_true_eq]
  omega
theorem aC309 {s : Int} (H : aHyp s) : ((decide ((a303 s) > 1000000000)) == false) = true := by
  have := aR303 H
  simp only [beq_iff_eq, decide_eq_false_iff_not, decide_eq_true_eq]
  omega
theorem aC313 {s : Int} (H : aHyp s) : ((decide ((a310 s) < ((-1000000000 : Int)))) == false) = true := by
  have := aR310 H
  simp only [beq_iff_eq, decide_eq_false_iff_not, decide_eq_true_eq]
  omega
theorem aC316 {s : Int} (H : aHyp s) : ((decide ((a310 s) > 1000000000)) == false) = true := by
  have := aR310 H
  simp only [beq_iff_eq, decide_eq_false_iff_not, decide_eq_true_eq]
  omega
theorem aC324 {s : Int} (H : aHyp s) : ((decide ((a320 s) < ((-9999 : Int)))) == false) = true := by
  have := aR320 H
  simp only [beq_iff_eq, decide_eq_false_iff_not, decide_eq_true_eq]
  omega
theorem aC327 {s : Int} (H : aHyp s) : ((decide ((a320 s) > 9999)) == false) = true := by
  have := aR320 H
  simp only [beq_iff_eq, decide_eq_false_iff_not, decide_eq_true_eq]
  omega
theorem aC331 {s : Int} (H : aHyp s) : (((a329 s) != (Option.some Ordering.eq)) == false) = true := by
  have := aR103 H
  unfold a329
  rw [aF328 H, Clk.ord_self _ (by omega)]
  rfl
theorem aC341 {s : Int} (H : aHyp s) : (((a339 s) == (Option.some Ordering.gt)) == false) = true := by
  have := aR103 H
  unfold a339
  rw [aF338 H, Clk.ord_1e9 _ (by omega) (by omega)]
  rfl
theorem aC345 {s : Int} (H : aHyp s) : ((decide ((a342 s) < 2)) == true) = true := by
  have := aR342 H
  simp only [beq_iff_eq, decide_eq_false_iff_not, decide_eq_true_eq]
  omega
theorem aC346 {s : Int} (H : aHyp s) : (Go.Ev.froundOk (a328 s)) = true := by
  have := aR103 H
  rw [aF328 H]
  exact Clk.froundOk_fo _ (by omega)
theorem aC348 {s : Int} (H : aHyp s) : (Go.Ev.f2iOk Go.FloatKind.f64 (a347 s) Go.IntKind.i64) = true := by
  have := aR103 H
  rw [aF347 H]
  exact Clk.f2iOk_fo _ (by omega)
theorem aC406 {s : Int} (H : aHyp s) : ((decide ((a403 s) < ((-4371587 : Int)))) == false) = true := by
  have := aR403 H
  simp only [beq_iff_eq, decide_eq_false_iff_not, decide_eq_true_eq]
  omega
theorem aC409 {s : Int} (H : aHyp s) : ((decide ((a403 s) > 2932896)) == false) = true := by
  have := aR403 H
  simp only [beq_iff_eq, decide_eq_false_iff_not, decide_eq_true_eq]
  omega
theorem aC417 {s : Int} (H : aHyp s) : (((a415 s) == (Option.some Ordering.eq)) == true) = true := by
  have := aR401 H
  have := H.h0; have := H.h1
  have := H.h0; have := H.h1
  have := aTot H
  unfold a415
  rw [aF414 H, aF10 H, Clk.eq_fo _ _ (by omega) (by omega)]
  simp only [beq_iff_eq, decide_eq_true_eq]
  omega
theorem aAll {s : Int} (H : aHyp s) : ∀ b ∈ aRecs s, b = true := by
  unfold aRecs
  simp only [aC11 H, aC16 H, aC28 H, aC29 H, aC36 H, aC39 H, aC93 H, aC101 H, aC107 H, aC187 H, aC192 H, aC195 H, aC196 H, aC205 H, aC210 H, aC213 H, aC214 H, aC231 H, aC236 H, aC239 H, aC240 H, aC249 H, aC254 H, aC257 H, aC258 H, aC268 H, aC273 H, aC276 H, aC277 H, aC285 H, aC288 H, aC292 H, aC295 H, aC299 H, aC302 H, aC306 H, aC309 H, aC313 H, aC316 H, aC324 H, aC327 H, aC331 H, aC341 H, aC345 H, aC346 H, aC348 H, aC406 H, aC409 H, aC417 H, List.mem_cons, List.not_mem_nil, or_false, or_self]
  exact fun b h => h
end Go.Proofs.YthopphfehgdocaaGreatDoor
