import Derived.Test.YthopphfehgdocaaGreatDoorRef5
import Derived.Test.YthopphfehgdocaaGreatDoorClk1
import Derived.Test.YthopphfehgdocaaGreatDoorRef3
set_option linter.unusedSimpArgs false
set_option linter.unusedVariables false
namespace Go.Proofs.YthopphfehgdocaaGreatDoor
open Go Go.RowKit Go.Ev Go.Proofs Go.Shelf
theorem rd_in {d : Int} (h1 : -4371587 ≤ d) (h2 : d ≤ 2932896) : reF d = 0 ∧ ryF d = Clk.dateYear d ∧ rmF d = Clk.dateMonth d ∧ rdF d = Clk.dateDay d := by
 have : inF d = true := by simp [inF, h1, h2]
 simp [reF, ryF, rmF, rdF, this]
theorem numOk_y {y : Int} (h1 : -10000 ≤ y) (h2 : y ≤ 10000) : numOkF y 0 1 = true := by
 unfold numOkF
 simp only [Bool.and_eq_true, decide_eq_true_eq]
 omega
theorem csplit_val (n : Int) (h1 : -377705116800 ≤ n) (h2 : n ≤ 253402300799) :
  csplitOkF (Clk.fo n) = true ∧ csplit0F (Clk.fo n) = Clk.dateYear (n / 86400) ∧ csplit1F (Clk.fo n) = Clk.dateMonth (n / 86400) ∧ csplit2F (Clk.fo n) = Clk.dateDay (n / 86400) ∧ csplit3F (Clk.fo n) = n % 86400 / 3600 ∧ csplit4F (Clk.fo n) = n % 3600 / 60 ∧ csplit5F (Clk.fo n) = Clk.fo (n % 60) ∧ csplit6F (Clk.fo n) = wdF (n / 86400) ∧ csplit7F (Clk.fo n) = n / 86400 - Clk.number (Clk.dateYear (n / 86400)) 0 1 ∧ csplit8F (Clk.fo n) = 0 := by
 have hb : n.natAbs < 2 ^ 53 := by omega
 have hd1 : -4371587 ≤ n / 86400 := by omega
 have hd2 : n / 86400 ≤ 2932896 := by omega
 obtain ⟨e1, e2, e3, e4⟩ := rd_in hd1 hd2
 have w1 : IntKind.i64.wrap (n / 86400) = n / 86400 := wrap_id _ (by omega) (by omega)
 have yr := Clk.dateYear_range _ hd1 hd2
 have t1 : Int.tmod (n % 86400) 60 = n % 60 := by rw [Int.tmod_eq_emod_of_nonneg (by omega)]; omega
 have t2 : Int.tdiv (n % 86400) 3600 = n % 86400 / 3600 := Int.tdiv_eq_ediv_of_nonneg (by omega)
 have t3 : Int.tdiv (n % 86400) 60 = n % 86400 / 60 := Int.tdiv_eq_ediv_of_nonneg (by omega)
 have t4 : Int.tmod (n % 86400 / 60) 60 = n % 3600 / 60 := by rw [Int.tmod_eq_emod_of_nonneg (by omega)]; omega
 have t5 : Int.tmod (n % 86400) 3600 = n % 3600 := by rw [Int.tmod_eq_emod_of_nonneg (by omega)]; omega
 have t6 : Int.tdiv (n % 3600) 60 = n % 3600 / 60 := Int.tdiv_eq_ediv_of_nonneg (by omega)
 have w2 : IntKind.i64.wrap (n % 86400 / 3600) = n % 86400 / 3600 := wrap_id _ (by omega) (by omega)
 have w3 : IntKind.i64.wrap (n % 86400 / 60) = n % 86400 / 60 := wrap_id _ (by omega) (by omega)
 have w4 : IntKind.i64.wrap (n % 3600 / 60) = n % 3600 / 60 := wrap_id _ (by omega) (by omega)
 have hnum := Clk.number (Clk.dateYear (n / 86400)) 0 1
 have w5 : IntKind.i64.wrap (n / 86400 - Clk.number (Clk.dateYear (n / 86400)) 0 1) = n / 86400 - Clk.number (Clk.dateYear (n / 86400)) 0 1 := wrap_id _ (by unfold Clk.number; simp only; omega) (by unfold Clk.number; simp only; omega)
 have a0 : (n % 60).natAbs < 2 ^ 53 := by omega
 have s1 : FloatKind.f64.format.sub (Clk.fo n) (Clk.fo n) = some (Clk.fo 0) := Clk.sub_fo_self n hb
 have s2 : FloatKind.f64.format.add (Clk.fo (n % 60)) (Clk.fo 0) = some (Clk.fo (n % 60)) := by
  have := Clk.add_fo' (n % 60) 0 a0 (by decide) (by omega)
  rwa [Int.add_zero] at this
 have o1 := Clk.ord_1e12 ((n.natAbs : Nat) : Int) (by omega) (by omega)
 have ny := numOk_y (y := Clk.dateYear (n / 86400)) (by omega) (by omega)
 refine ⟨?_, ?_, ?_, ?_, ?_, ?_, ?_, ?_, ?_, ?_⟩ <;>
  simp only [cspT, csplitOkF, csplit0F, csplit1F, csplit2F, csplit3F, csplit4F, csplit5F, csplit6F, csplit7F, csplit8F, numdF, Clk.fround_fo n hb, Clk.froundOk_fo n hb, Clk.ord_self n hb, Clk.abs_fo n hb, o1, Clk.f2iOk_fo n hb, Clk.f2i_fo n hb, w1, w2, w3, w4, w5, t1, t2, t3, t4, t5, t6, e1, e2, e3, e4, s1, s2, ny, Clk.near_fo, Clk.fval_some, Option.isSome_some, Bool.and_true, Bool.and_self, bne_self_eq_false, cond_false, cond_true]
theorem rsplit_val (n : Int) (h1 : -377705116800 ≤ n) (h2 : n ≤ 253402300799) :
  rsplitOkF (Clk.fo n) = true ∧ rsplit0F (Clk.fo n) = Clk.dateYear (n / 86400) ∧ rsplit1F (Clk.fo n) = Clk.dateMonth (n / 86400) ∧ rsplit2F (Clk.fo n) = Clk.dateDay (n / 86400) ∧ rsplit3F (Clk.fo n) = n % 86400 / 3600 ∧ rsplit4F (Clk.fo n) = n % 3600 / 60 ∧ rsplit5F (Clk.fo n) = Clk.fo (n % 60) ∧ rsplit6F (Clk.fo n) = wdF (n / 86400) ∧ rsplit7F (Clk.fo n) = n / 86400 - Clk.number (Clk.dateYear (n / 86400)) 0 1 ∧ rsplit8F (Clk.fo n) = 0 := by
 have hb : n.natAbs < 2 ^ 53 := by omega
 have hd1 : -4371587 ≤ n / 86400 := by omega
 have hd2 : n / 86400 ≤ 2932896 := by omega
 obtain ⟨e1, e2, e3, e4⟩ := rd_in hd1 hd2
 have w1 : IntKind.i64.wrap (n / 86400) = n / 86400 := wrap_id _ (by omega) (by omega)
 have yr := Clk.dateYear_range _ hd1 hd2
 have t1 : Int.tmod (n % 86400) 60 = n % 60 := by rw [Int.tmod_eq_emod_of_nonneg (by omega)]; omega
 have t2 : Int.tdiv (n % 86400) 3600 = n % 86400 / 3600 := Int.tdiv_eq_ediv_of_nonneg (by omega)
 have t3 : Int.tdiv (n % 86400) 60 = n % 86400 / 60 := Int.tdiv_eq_ediv_of_nonneg (by omega)
 have t4 : Int.tmod (n % 86400 / 60) 60 = n % 3600 / 60 := by rw [Int.tmod_eq_emod_of_nonneg (by omega)]; omega
 have t5 : Int.tmod (n % 86400) 3600 = n % 3600 := by rw [Int.tmod_eq_emod_of_nonneg (by omega)]; omega
 have t6 : Int.tdiv (n % 3600) 60 = n % 3600 / 60 := Int.tdiv_eq_ediv_of_nonneg (by omega)
 have w2 : IntKind.i64.wrap (n % 86400 / 3600) = n % 86400 / 3600 := wrap_id _ (by omega) (by omega)
 have w3 : IntKind.i64.wrap (n % 86400 / 60) = n % 86400 / 60 := wrap_id _ (by omega) (by omega)
 have w4 : IntKind.i64.wrap (n % 3600 / 60) = n % 3600 / 60 := wrap_id _ (by omega) (by omega)
 have w5 : IntKind.i64.wrap (n / 86400 - Clk.number (Clk.dateYear (n / 86400)) 0 1) = n / 86400 - Clk.number (Clk.dateYear (n / 86400)) 0 1 := wrap_id _ (by unfold Clk.number; simp only; omega) (by unfold Clk.number; simp only; omega)
 have a0 : (n % 60).natAbs < 2 ^ 53 := by omega
 have s1 : FloatKind.f64.format.sub (Clk.fo n) (Clk.fo n) = some (Clk.fo 0) := Clk.sub_fo_self n hb
 have s2 : FloatKind.f64.format.add (Clk.fo (n % 60)) (Clk.fo 0) = some (Clk.fo (n % 60)) := by
  have := Clk.add_fo' (n % 60) 0 a0 (by decide) (by omega)
  rwa [Int.add_zero] at this
 have c1 : Clk.fo (-1000000000000000) = 14054727237768577024 := by decide +kernel
 have c2 : Clk.fo 1000000000000000 = 4831355200913801216 := by decide +kernel
 have g1 := Clk.gt_fo n (-1000000000000000) hb (by decide)
 have g2 := Clk.lt_fo n 1000000000000000 hb (by decide)
 rw [c1, decide_eq_true (show (-1000000000000000 : Int) < n by omega)] at g1
 rw [c2, decide_eq_true (show n < 1000000000000000 by omega)] at g2
 have ny : beginOkF (Clk.dateYear (n / 86400)) 0 = true := by
  unfold beginOkF
  simp only [Bool.and_eq_true, decide_eq_true_eq]
  omega
 refine ⟨?_, ?_, ?_, ?_, ?_, ?_, ?_, ?_, ?_, ?_⟩ <;>
  simp only [rspT, rsplitOkF, rsplit0F, rsplit1F, rsplit2F, rsplit3F, rsplit4F, rsplit5F, rsplit6F, rsplit7F, rsplit8F, numF, Clk.fround_fo n hb, Clk.froundOk_fo n hb, g1, g2, Clk.f2iOk_fo n hb, Clk.f2i_fo n hb, w1, w2, w3, w4, w5, t1, t2, t3, t4, t5, t6, e1, e2, e3, e4, s1, s2, ny, Clk.near_fo, Clk.fval_some, Option.isSome_some, Bool.true_or, Bool.not_true, Bool.and_true, Bool.and_self, bne_self_eq_false, cond_false, cond_true]
 all_goals first | rfl | (simp only [wdF, w1]; done) | skip
def secsOf (Y M D ho mi s : Int) : Int := Clk.number Y M D * 86400 + ho * 3600 + mi * 60 + s
theorem cwksOk_all (m : Int) : cwksOkF m = true := by
 unfold cwksOkF
 by_cases h : inF m = true
 ·have h' := h
  unfold inF at h'
  simp only [Bool.and_eq_true, decide_eq_true_eq] at h'
  obtain ⟨e1, e2, e3, e4⟩ := rd_in h'.1 h'.2
  have yr := Clk.dateYear_range _ h'.1 h'.2
  have n0 := numOk_y (y := Clk.dateYear m) (by omega) (by omega)
  have w1 : IntKind.i64.wrap (Clk.dateYear m - 1) = Clk.dateYear m - 1 := wrap_id _ (by omega) (by omega)
  have w2 : IntKind.i64.wrap (Clk.dateYear m + 1) = Clk.dateYear m + 1 := wrap_id _ (by omega) (by omega)
  have n1 := numOk_y (y := Clk.dateYear m - 1) (by omega) (by omega)
  have n2 := numOk_y (y := Clk.dateYear m + 1) (by omega) (by omega)
  simp only [e1, e2, n0, w1, w2, n1, n2, bne_self_eq_false, cond_false, Bool.and_self, Bool.true_and, Bool.cond_self]
 ·have h' : inF m = false := by simpa using h
  have e1 : reF m = 110 := by simp [reF, h']
  rw [e1]
  rfl
theorem cdayOk_all {y m d : Int} (h1 : 0 ≤ m) (h2 : m ≤ 11) (h3 : d ≤ 1000000) : cdayOkF y m d = true := by
 unfold cdayOkF
 cases c1 : decide (y < -9999) with
 | true => rfl
 | false =>
  cases c2 : decide (y > 9999) with
  | true => rfl
  | false =>
   cases c3 : decide (d < 1) with
   | true => rfl
   | false =>
    cases c4 : decide (d > lenF y m) with
    | true => rfl
    | false =>
     simp only [decide_eq_false_iff_not] at c1 c2 c3
     simp only [cond_false, Bool.and_true]
     unfold numOkF
     simp only [Bool.and_eq_true, decide_eq_true_eq]
     omega
theorem secs_back (n : Int) : secsOf (Clk.dateYear (n / 86400)) (Clk.dateMonth (n / 86400)) (Clk.dateDay (n / 86400)) (n % 86400 / 3600) (n % 3600 / 60) (n % 60) = n := by
 unfold secsOf
 rw [Clk.number_date]
 omega
end Go.Proofs.YthopphfehgdocaaGreatDoor
