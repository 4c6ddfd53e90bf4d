import Derived.Laws.FloatArith
import Derived.Test.YthopphfehgdocaaGreatDoorGen8
import Derived.Laws.BitsLemmas
set_option linter.unusedSimpArgs false
set_option linter.unusedVariables false
namespace Clk
open Ieee
theorem log2_mul (n t : Nat) (h0 : n ≠ 0) : (n * 2 ^ t).log2 = n.log2 + t := by
 have hp : 0 < 2 ^ t := Nat.two_pow_pos t
 have hm : n * 2 ^ t ≠ 0 := Nat.mul_ne_zero h0 (by omega)
 have h1 : 2 ^ n.log2 ≤ n := (Nat.le_log2 h0).1 (Nat.le_refl _)
 have h2 : n < 2 ^ (n.log2 + 1) := (Nat.log2_lt h0).1 (Nat.lt_succ_self _)
 have h3 : n.log2 + t ≤ (n * 2 ^ t).log2 := (Nat.le_log2 hm).2 (by rw [Nat.pow_add]; exact Nat.mul_le_mul_right _ h1)
 have h4 : (n * 2 ^ t).log2 < n.log2 + t + 1 := (Nat.log2_lt hm).2 (by
  rw [show n.log2 + t + 1 = n.log2 + 1 + t by omega, Nat.pow_add]
  exact Nat.mul_lt_mul_of_pos_right h2 hp)
 omega
theorem cut_exact (s : Bool) (a d : Nat) (ha : a ≠ 0) : Toward.even.cut s (a * 2 ^ d) d = a ∧ Toward.down.cut s (a * 2 ^ d) d = a := by
 have hl : (a * 2 ^ d).log2 = a.log2 + d := log2_mul a d ha
 have hmin : min d ((a * 2 ^ d).log2 + 2) = d := by rw [hl]; omega
 have hp : 0 < 2 ^ d := Nat.two_pow_pos d
 unfold Toward.cut
 simp only [hmin, Nat.shiftLeft_eq, Nat.one_mul, Nat.mul_div_cancel _ hp, Nat.mul_mod_left]
 constructor
 ·have h1 : ¬ (2 ^ d < 2 * 0) := by omega
  have h2 : ¬ (2 ^ d = 2 * 0) := by omega
  simp [h1]
 ·simp
def rung (n : Nat) : Nat := (n.log2 + 1022) * 2 ^ 52 + n * 2 ^ (52 - n.log2)
theorem log_le {n : Nat} (h0 : n ≠ 0) (h : n < 2 ^ 53) : n.log2 ≤ 52 := by
 have := (Nat.log2_lt h0).2 h
 omega
theorem kept_range {n : Nat} (h0 : n ≠ 0) (h : n < 2 ^ 53) : 2 ^ 52 ≤ n * 2 ^ (52 - n.log2) ∧ n * 2 ^ (52 - n.log2) < 2 ^ 53 := by
 have hk := log_le h0 h
 have h1 : 2 ^ n.log2 ≤ n := (Nat.le_log2 h0).1 (Nat.le_refl _)
 have h2 : n < 2 ^ (n.log2 + 1) := (Nat.log2_lt h0).1 (Nat.lt_succ_self _)
 have hp : 0 < 2 ^ (52 - n.log2) := Nat.two_pow_pos _
 constructor
 ·have := Nat.mul_le_mul_right (2 ^ (52 - n.log2)) h1
  rw [← Nat.pow_add, show n.log2 + (52 - n.log2) = 52 by omega] at this
  exact this
 ·have := Nat.mul_lt_mul_of_pos_right h2 hp
  rw [← Nat.pow_add, show n.log2 + 1 + (52 - n.log2) = 53 by omega] at this
  exact this
theorem minl (a b : Nat) (h : a ≤ 1074 * 2 ^ 52) (h2 : b < 2 ^ 53) : min (a + b) (2047 * 2 ^ 52) = a + b := by omega
theorem write_int (s : Bool) (n : Nat) (h0 : n ≠ 0) (h : n < 2 ^ 53) (t : Nat) :
  double.write (.number s (n * 2 ^ t) (-(t : Int))) = double.word s (rung n) := by
 have hk := log_le h0 h
 have hm : n * 2 ^ t ≠ 0 := Nat.mul_ne_zero h0 (by have := Nat.two_pow_pos t; omega)
 obtain ⟨k1, k2⟩ := kept_range h0 h
 unfold Format.write Format.nearest
 dsimp only
 rw [if_neg hm, log2_mul n t h0]
 have e1 : (-(t : Int) + ((n.log2 + t : Nat) : Int) - (double.fractionBits : Int)) = (n.log2 : Int) - 52 := by
  show (-(t : Int) + ((n.log2 + t : Nat) : Int) - ((52 : Nat) : Int)) = _
  omega
 have e2 : double.leastPlace = -1074 := by decide
 have e3 : max ((n.log2 : Int) - 52) (-1074) = (n.log2 : Int) - 52 := by omega
 simp only [e1, e2, e3]
 have hcut : Toward.even.cut s ((n * 2 ^ t) <<< (-(t : Int) - ((n.log2 : Int) - 52)).toNat) (((n.log2 : Int) - 52) - -(t : Int)).toNat = n * 2 ^ (52 - n.log2) := by
  rw [Nat.shiftLeft_eq]
  by_cases ht : t + n.log2 ≤ 52
  ·have a1 : (-(t : Int) - ((n.log2 : Int) - 52)).toNat = 52 - n.log2 - t := by omega
   have a2 : (((n.log2 : Int) - 52) - -(t : Int)).toNat = 0 := by omega
   rw [a1, a2, Nat.mul_assoc n, ← Nat.pow_add, show t + (52 - n.log2 - t) = 52 - n.log2 by omega]
   have := (cut_exact s (n * 2 ^ (52 - n.log2)) 0 (by omega)).1
   rw [Nat.pow_zero, Nat.mul_one] at this
   exact this
  ·have a1 : (-(t : Int) - ((n.log2 : Int) - 52)).toNat = 0 := by omega
   have a2 : (((n.log2 : Int) - 52) - -(t : Int)).toNat = n.log2 + t - 52 := by omega
   rw [a1, a2, Nat.pow_zero, Nat.mul_one]
   have : n * 2 ^ t = n * 2 ^ (52 - n.log2) * 2 ^ (n.log2 + t - 52) := by
    rw [Nat.mul_assoc, ← Nat.pow_add, show 52 - n.log2 + (n.log2 + t - 52) = t by omega]
   rw [this]
   exact (cut_exact s (n * 2 ^ (52 - n.log2)) _ (by omega)).1
 rw [hcut]
 refine congrArg (double.word s) ?_
 have e4 : ((n.log2 : Int) - 52 - -1074).toNat = n.log2 + 1022 := by omega
 have e5 : double.infRung = 2047 * 2 ^ 52 := by decide
 have e6 : double.binade = 2 ^ 52 := by decide
 rw [e4, e5, e6]
 clear e1 e2 e3 e4 e5 e6 hcut hm
 exact minl _ _ (Nat.mul_le_mul_right _ (by omega)) k2
set_option maxRecDepth 20000 in
theorem read_int (s : Bool) (n : Nat) (h0 : n ≠ 0) (h : n < 2 ^ 53) : double.read (double.word s (rung n)) = .number s (n * 2 ^ (52 - n.log2)) ((n.log2 : Int) - 52) := by
 have hk := log_le h0 h
 obtain ⟨k1, k2⟩ := kept_range h0 h
 have hr : rung n = (n.log2 + 1022) * 2 ^ 52 + n * 2 ^ (52 - n.log2) := rfl
 generalize rung n = g at hr ⊢
 generalize n * 2 ^ (52 - n.log2) = q at hr k1 k2 ⊢
 generalize n.log2 = l at hr hk ⊢
 have hr1 : g < 2047 * 2 ^ 52 := by omega
 have hr0 : 2 ^ 52 ≤ g := by omega
 have e1 : g / 2 ^ 52 = l + 1023 := by omega
 have e2 : 2 ^ 52 + g % 2 ^ 52 = q := by omega
 have hw0 : ∀ x : Nat, (if s then 2 ^ 63 + x else x) % 2 ^ 63 = x % 2 ^ 63 := by intro x; cases s <;> simp
 have hw : (if s then 2 ^ 63 + g else g) % 2 ^ 63 = g := by rw [hw0]; omega
 have hs : ((if s then 2 ^ 63 + g else g) / 2 ^ 63 % 2 == 1) = s := by
  cases s with
  | true =>
   have : (2 ^ 63 + g) / 2 ^ 63 % 2 = 1 := by omega
   simp only [if_true, this]; rfl
  | false =>
   have : g / 2 ^ 63 % 2 = 0 := by omega
   simp only [Bool.false_eq_true, if_false, this]; rfl
 have e3 : (-1074 + ((l + 1023 - 1 : Nat) : Int)) = (l : Int) - 52 := by omega
 have es : double.signWeight = 2 ^ 63 := by decide
 have eb : double.binade = 2 ^ 52 := by decide
 have ei : double.infRung = 2047 * 2 ^ 52 := by decide
 have el : double.leastPlace = -1074 := by decide
 have n1 : ¬ g < 2 ^ 52 := Nat.not_lt.2 hr0
 unfold Format.read Format.word
 simp only [es, eb, ei, el, hw, hs]
 rw [if_neg n1, if_pos hr1, e1, e2, e3]
def dat (n : Int) : Datum := if n = 0 then .number false 0 (-1074) else .number (n < 0) (n.natAbs * 2 ^ (52 - n.natAbs.log2)) ((n.natAbs.log2 : Int) - 52)
def fo (n : Int) : Nat := double.write (.number (n < 0) n.natAbs 0)
theorem fo_eq (n : Int) (h0 : n ≠ 0) (h : n.natAbs < 2 ^ 53) : fo n = double.word (n < 0) (rung n.natAbs) := by
 have := write_int (n < 0) n.natAbs (by omega) h 0
 simp only [Nat.pow_zero, Nat.mul_one] at this
 exact this
theorem fo_zero : fo 0 = 0 := by
 show double.nearest (decide ((0 : Int) < 0)) 0 0 = 0
 unfold Format.nearest
 rw [if_pos rfl]
 rfl
theorem read_fo (n : Int) (h : n.natAbs < 2 ^ 53) : double.read (fo n) = dat n := by
 unfold dat
 by_cases h0 : n = 0
 ·subst h0; rw [fo_zero, if_pos rfl]; decide +kernel
 ·rw [if_neg h0, fo_eq n h0 h]
  exact read_int _ _ (by omega) h
theorem write_fo (n : Int) (h : n.natAbs < 2 ^ 53) (t : Nat) : double.write (.number (n < 0) (n.natAbs * 2 ^ t) (-(t : Int))) = fo n := by
 by_cases h0 : n = 0
 ·subst h0
  rw [fo_zero]
  have : (0 : Int).natAbs * 2 ^ t = 0 := by simp
  rw [this]
  show double.nearest (decide ((0 : Int) < 0)) 0 (-(t : Int)) = 0
  unfold Format.nearest
  rw [if_pos rfl]
  rfl
 ·rw [fo_eq n h0 h]
  exact write_int _ _ (by omega) h t
theorem signed_dat (n : Int) (h : n.natAbs < 2 ^ 53) (s : Bool) (m : Nat) (i base : Int) (hd : dat n = .number s m i) (hb : base ≤ i) (hb0 : base ≤ 0) : signed s m (i - base).toNat = n * 2 ^ (-base).toNat := by
 unfold dat at hd
 by_cases h0 : n = 0
 ·rw [if_pos h0] at hd
  cases hd
  subst h0
  simp [signed]
 ·rw [if_neg h0] at hd
  cases hd
  have hk := log_le (n := n.natAbs) (by omega) h
  unfold signed
  have e : (n.natAbs * 2 ^ (52 - n.natAbs.log2)) <<< ((n.natAbs.log2 : Int) - 52 - base).toNat = n.natAbs * 2 ^ (-base).toNat := by
   rw [Nat.shiftLeft_eq, Nat.mul_assoc, ← Nat.pow_add]
   congr 2
   omega
  rw [e]
  have hc : ((n.natAbs * 2 ^ (-base).toNat : Nat) : Int) = (n.natAbs : Int) * 2 ^ (-base).toNat := by
   rw [Int.natCast_mul, Int.natCast_pow]; rfl
  rw [hc]
  rcases Int.lt_or_le n 0 with q | q
  ·have : (n.natAbs : Int) = -n := by omega
   simp only [q, decide_true, if_true, this]
   rw [Int.neg_mul, Int.neg_neg]
  ·have : (n.natAbs : Int) = n := by omega
   have q2 : ¬ n < 0 := by omega
   simp only [q2, decide_false, Bool.false_eq_true, if_false, this]
theorem dat_form (n : Int) (h : n.natAbs < 2 ^ 53) : ∃ s m i, dat n = .number s m i ∧ i ≤ 0 := by
 unfold dat
 by_cases h0 : n = 0
 ·rw [if_pos h0]; exact ⟨_, _, _, rfl, by omega⟩
 ·rw [if_neg h0]
  have hk := log_le (n := n.natAbs) (by omega) h
  exact ⟨_, _, _, rfl, by omega⟩
theorem cut_zero (s : Bool) (a d : Nat) (ha : a ≠ 0) : Toward.zero.cut s (a * 2 ^ d) d = a := by
 have hl : (a * 2 ^ d).log2 = a.log2 + d := log2_mul a d ha
 have hmin : min d ((a * 2 ^ d).log2 + 2) = d := by rw [hl]; omega
 have hp : 0 < 2 ^ d := Nat.two_pow_pos d
 unfold Toward.cut
 simp only [hmin, Nat.shiftLeft_eq, Nat.one_mul, Nat.mul_div_cancel _ hp]
 rfl
theorem order_fo (a b : Int) (ha : a.natAbs < 2 ^ 53) (hb : b.natAbs < 2 ^ 53) : double.order (fo a) (fo b) = some (compare a b) := by
 unfold Format.order
 rw [read_fo a ha, read_fo b hb]
 obtain ⟨s, m, i, e1, i1⟩ := dat_form a ha
 obtain ⟨t, n, j, e2, j1⟩ := dat_form b hb
 rw [e1, e2]
 simp only [Datum.order]
 rw [signed_dat a ha s m i _ e1 (Int.min_le_left i j) (by omega), signed_dat b hb t n j _ e2 (Int.min_le_right i j) (by omega)]
 have hp : (0 : Int) < 2 ^ (-(min i j)).toNat := Int.pow_pos (by decide)
 congr 1
 generalize (2 : Int) ^ (-(min i j)).toNat = p at hp ⊢
 rcases Int.lt_trichotomy a b with q | q | q
 ·have q2 : a * p < b * p := Int.mul_lt_mul_of_pos_right q hp
  rw [Int.compare_eq_lt.2 q2, Int.compare_eq_lt.2 q]
 ·rw [q]
  rw [Int.compare_eq_eq.2 rfl, Int.compare_eq_eq.2 rfl]
 ·have q2 : b * p < a * p := Int.mul_lt_mul_of_pos_right q hp
  rw [Int.compare_eq_gt.2 q2, Int.compare_eq_gt.2 q]
theorem floor_dat (n : Int) (h : n.natAbs < 2 ^ 53) : ∃ s, (dat n).integral .down = .number s n.natAbs 0 ∧ s = decide (n < 0) := by
 unfold dat
 by_cases h0 : n = 0
 ·subst h0
  exact ⟨false, by decide +kernel, by decide⟩
 ·rw [if_neg h0]
  have hk := log_le (n := n.natAbs) (by omega) h
  refine ⟨_, ?_, rfl⟩
  simp only [Datum.integral]
  have a1 : ((n.natAbs.log2 : Int) - 52).toNat = 0 := by omega
  have a2 : (-((n.natAbs.log2 : Int) - 52)).toNat = 52 - n.natAbs.log2 := by omega
  rw [a1, a2, Nat.shiftLeft_zero]
  rw [(cut_exact _ n.natAbs _ (by omega)).2]
theorem floor_fo (n : Int) (h : n.natAbs < 2 ^ 53) : double.write ((double.read (fo n)).integral .down) = fo n := by
 rw [read_fo n h]
 obtain ⟨s, e1, e2⟩ := floor_dat n h
 rw [e1, e2]
 rfl
theorem add_fo (a b : Int) (ha : a.natAbs < 2 ^ 53) (hb : b.natAbs < 2 ^ 53) (hc : (a + b).natAbs < 2 ^ 53) : double.add (fo a) (fo b) = some (fo (a + b)) := by
 unfold Format.add
 rw [read_fo a ha, read_fo b hb]
 obtain ⟨s, m, i, e1, i1⟩ := dat_form a ha
 obtain ⟨t, n, j, e2, j1⟩ := dat_form b hb
 rw [e1, e2]
 simp only [Datum.sum]
 rw [signed_dat a ha s m i _ e1 (Int.min_le_left i j) (by omega), signed_dat b hb t n j _ e2 (Int.min_le_right i j) (by omega), ← Int.add_mul]
 have hp : (0 : Int) < 2 ^ (-(min i j)).toNat := Int.pow_pos (by decide)
 have hm : min i j = -((-(min i j)).toNat : Int) := by omega
 have hst : (a + b) = 0 → a = 0 → s = false := fun _ h => by subst h; unfold dat at e1; rw [if_pos rfl] at e1; cases e1; rfl
 have hsn : a ≠ 0 → s = decide (a < 0) := fun h => by unfold dat at e1; rw [if_neg h] at e1; cases e1; rfl
 have htn : b ≠ 0 → t = decide (b < 0) := fun h => by unfold dat at e2; rw [if_neg h] at e2; cases e2; rfl
 have hneg : (if (a + b) * 2 ^ (-(min i j)).toNat = 0 then s && t else decide ((a + b) * 2 ^ (-(min i j)).toNat < 0)) = decide (a + b < 0) := by
  generalize (2 : Int) ^ (-(min i j)).toNat = p at hp ⊢
  by_cases hz : a + b = 0
  ·rw [hz, Int.zero_mul, if_pos rfl]
   by_cases ha0 : a = 0
   ·rw [hst hz ha0]; rfl
   ·rw [hsn ha0, htn (by omega)]
    have : (decide (a < 0) && decide (b < 0)) = false := by
     rcases Int.lt_or_le a 0 with q | q
     ·have : ¬ b < 0 := by omega
      simp [this]
     ·have : ¬ a < 0 := by omega
      simp [this]
    rw [this]; rfl
  ·rw [if_neg (Int.mul_ne_zero hz (by omega))]
   rcases Int.lt_or_le (a + b) 0 with q | q
   ·have : (a + b) * p < 0 := Int.mul_neg_of_neg_of_pos q hp
    simp [q, this]
   ·have h1 : ¬ (a + b) * p < 0 := by have := Int.mul_nonneg q (Int.le_of_lt hp); omega
    have h2 : ¬ a + b < 0 := by omega
    simp [h1, h2]
 rw [hneg]
 have hab : ((a + b) * 2 ^ (-(min i j)).toNat).natAbs = (a + b).natAbs * 2 ^ (-(min i j)).toNat := by
  rw [Int.natAbs_mul, Int.natAbs_pow]; rfl
 rw [hab]
 simp only [Option.map_some]
 have := write_fo (a + b) hc (-(min i j)).toNat
 rw [← hm] at this
 rw [this]
theorem sub_self_fo (a : Int) (ha : a.natAbs < 2 ^ 53) : double.sub (fo a) (fo a) = some 0 := by
 unfold Format.sub
 rw [read_fo a ha]
 obtain ⟨s, m, i, e1, i1⟩ := dat_form a ha
 rw [e1]
 simp only [Datum.opposite, Datum.sum, Option.map_some]
 have hm : min i i = i := by omega
 rw [hm]
 have : signed s m (i - i).toNat + signed (!s) m (i - i).toNat = 0 := by unfold signed; cases s <;> simp <;> omega
 rw [this, if_pos rfl]
 have : (s && !s) = false := by cases s <;> rfl
 rw [this]
 show some (double.nearest false (0 : Int).natAbs i) = some 0
 unfold Format.nearest
 rw [if_pos Int.natAbs_zero]
 rfl
theorem toInt_fo (n : Int) (h : n.natAbs < 2 ^ 53) (way : Toward) (hw : way = .zero ∨ way = .down) : (double.read (fo n)).toInt way = some n := by
 rw [read_fo n h]
 have hd : (dat n).integral way = (dat n).integral .down := by
  unfold dat
  by_cases h0 : n = 0
  ·subst h0
   rcases hw with rfl | rfl
   ·decide +kernel
   ·rfl
  ·rw [if_neg h0]
   rcases hw with rfl | rfl
   ·simp only [Datum.integral]
    have hk := log_le (n := n.natAbs) (by omega) h
    have a1 : ((n.natAbs.log2 : Int) - 52).toNat = 0 := by omega
    have a2 : (-((n.natAbs.log2 : Int) - 52)).toNat = 52 - n.natAbs.log2 := by omega
    rw [a1, a2, Nat.shiftLeft_zero, (cut_exact _ n.natAbs _ (by omega)).2]
    rw [(cut_zero _ n.natAbs _ (by omega))]
   ·rfl
 obtain ⟨s, e1, e2⟩ := floor_dat n h
 unfold Datum.toInt
 rw [hd, e1]
 simp only
 unfold signed
 rw [Nat.shiftLeft_zero, e2]
 rcases Int.lt_or_le n 0 with q | q
 ·simp [q]; omega
 ·have q2 : ¬ n < 0 := by omega
  simp [q2]; omega
end Clk
namespace Clk
open Go Ieee
theorem lt_fo (a b : Int) (ha : a.natAbs < 2 ^ 53) (hb : b.natAbs < 2 ^ 53) : (FloatKind.f64.format.order (fo a) (fo b) == some .lt) = decide (a < b) := by
 show (double.order (fo a) (fo b) == some .lt) = _
 rw [order_fo a b ha hb]
 rcases Int.lt_trichotomy a b with q | q | q
 ·rw [Int.compare_eq_lt.2 q]; simp [q]
 ·rw [Int.compare_eq_eq.2 q]; subst q; simp
 ·rw [Int.compare_eq_gt.2 q]; have : ¬ a < b := by omega
  simp [this]
theorem gt_fo (a b : Int) (ha : a.natAbs < 2 ^ 53) (hb : b.natAbs < 2 ^ 53) : (FloatKind.f64.format.order (fo a) (fo b) == some .gt) = decide (b < a) := by
 show (double.order (fo a) (fo b) == some .gt) = _
 rw [order_fo a b ha hb]
 rcases Int.lt_trichotomy a b with q | q | q
 ·rw [Int.compare_eq_lt.2 q]; have : ¬ b < a := by omega
  simp [this]
 ·rw [Int.compare_eq_eq.2 q]; subst q; simp
 ·rw [Int.compare_eq_gt.2 q]; simp [q]
theorem eq_fo (a b : Int) (ha : a.natAbs < 2 ^ 53) (hb : b.natAbs < 2 ^ 53) : (FloatKind.f64.format.order (fo a) (fo b) == some .eq) = decide (a = b) := by
 show (double.order (fo a) (fo b) == some .eq) = _
 rw [order_fo a b ha hb]
 rcases Int.lt_trichotomy a b with q | q | q
 ·rw [Int.compare_eq_lt.2 q]; have : ¬ a = b := by omega
  simp [this]
 ·rw [Int.compare_eq_eq.2 q]; subst q; simp
 ·rw [Int.compare_eq_gt.2 q]; have : ¬ a = b := by omega
  simp [this]
theorem fo_1e12 : fo 1000000000000 = 4786511204640096256 := by decide +kernel
end Clk
namespace Clk
open Go Ieee Go.Ev
theorem near_fo (n : Int) : FloatKind.nearest .f64 n = fo n := rfl
theorem froundOk_fo (n : Int) (h : n.natAbs < 2 ^ 53) : froundOk (fo n) = true := by
 unfold froundOk
 show (match double.read (fo n) with | .nan _ _ => false | _ => true) = true
 rw [read_fo n h]
 obtain ⟨s, m, i, e, _⟩ := dat_form n h
 rw [e]
theorem fround_fo (n : Int) (h : n.natAbs < 2 ^ 53) : fround .down (fo n) = fo n := floor_fo n h
theorem f2i_fo (n : Int) (h : n.natAbs < 2 ^ 53) : f2i .f64 (fo n) = n := by
 unfold f2i
 have : (FloatKind.f64.decode (fo n)).toInt .zero = some n := toInt_fo n h .zero (.inl rfl)
 rw [this]; rfl
theorem f2iOk_fo (n : Int) (h : n.natAbs < 2 ^ 53) : f2iOk .f64 (fo n) .i64 = true := by
 unfold f2iOk
 rw [f2i_fo n h]
 have : (FloatKind.f64.decode (fo n)).toInt .zero = some n := toInt_fo n h .zero (.inl rfl)
 rw [this]
 have h1 : IntKind.i64.min = -9223372036854775808 := by decide
 have h2 : IntKind.i64.max = 9223372036854775807 := by decide
 rw [h1, h2]
 simp
 omega
theorem ord_self (n : Int) (h : n.natAbs < 2 ^ 53) : (FloatKind.f64.format.order (fo n) (fo n) != some Ordering.eq) = false := by
 have := eq_fo n n h h
 simp only [decide_true] at this
 rw [bne, this]; rfl
theorem ord_1e12 (n : Int) (h : n.natAbs < 2 ^ 53) (h2 : n ≤ 1000000000000) : (FloatKind.f64.format.order (fo n) 4786511204640096256 == some Ordering.gt) = false := by
 rw [← fo_1e12, gt_fo _ _ h (by decide)]; simp; omega
theorem sub_fo_self (n : Int) (h : n.natAbs < 2 ^ 53) : FloatKind.f64.format.sub (fo n) (fo n) = some (fo 0) := by rw [fo_zero]; exact sub_self_fo n h
theorem add_fo' (a b : Int) (ha : a.natAbs < 2 ^ 53) (hb : b.natAbs < 2 ^ 53) (hc : (a + b).natAbs < 2 ^ 53) : FloatKind.f64.format.add (fo a) (fo b) = some (fo (a + b)) := add_fo a b ha hb hc
theorem fval_some (n : Nat) : fval (some n) = n := rfl
theorem rung_lt (n : Nat) (h0 : n ≠ 0) (h : n < 2 ^ 53) : rung n < 2 ^ 63 := by
 have hk := log_le h0 h
 obtain ⟨k1, k2⟩ := kept_range h0 h
 unfold rung
 have : (n.log2 + 1022) * 2 ^ 52 ≤ 1074 * 2 ^ 52 := Nat.mul_le_mul_right _ (by omega)
 omega
theorem abs_fo (n : Int) (h : n.natAbs < 2 ^ 53) :
  Int.toNat (IntKind.wrap .u64 (((BitVec.toNat ((BitVec.ofInt 64 (((fo n : Nat)) : Int)) &&& (~~~(BitVec.ofInt 64 9223372036854775808)))) : Nat) : Int)) = fo (n.natAbs : Int) := by
 have hw : ∀ x : Nat, x < 2 ^ 63 → ∀ b : Bool, Int.toNat (IntKind.wrap .u64 (((BitVec.toNat ((BitVec.ofInt 64 (((if b then 2 ^ 63 + x else x : Nat)) : Int)) &&& (~~~(BitVec.ofInt 64 9223372036854775808)))) : Nat) : Int)) = x := by
  intro x hx b
  have hbv : (BitVec.ofInt 64 (((if b then 2 ^ 63 + x else x : Nat)) : Int)) &&& (~~~(BitVec.ofInt 64 9223372036854775808)) = BitVec.ofNat 64 x := by
   have e1 : BitVec.ofInt 64 (((if b then 2 ^ 63 + x else x : Nat)) : Int) = BitVec.ofNat 64 (if b then 2 ^ 63 + x else x) := by
    apply BitVec.eq_of_toNat_eq; simp
   have e2 : ~~~(BitVec.ofInt 64 9223372036854775808) = BitVec.ofNat 64 (2 ^ 63 - 1) := by decide
   rw [e1, e2]
   apply BitVec.eq_of_toNat_eq
   simp only [BitVec.toNat_and, BitVec.toNat_ofNat]
   rw [Nat.mod_eq_of_lt (show (if b then 2 ^ 63 + x else x) < 2 ^ 64 by cases b <;> simp <;> omega), Nat.mod_eq_of_lt (show 2 ^ 63 - 1 < 2 ^ 64 by decide), Nat.mod_eq_of_lt (show x < 2 ^ 64 by omega), Nat.and_two_pow_sub_one_eq_mod]
   cases b <;> simp <;> omega
  rw [hbv, IntKind.wrap_u64]
  simp
  omega
 by_cases h0 : n = 0
 ·subst h0
  have := hw 0 (by decide) false
  rw [fo_zero]
  exact this
 ·have e1 := fo_eq n h0 h
  have e2 := fo_eq (n.natAbs : Int) (by omega) (by simpa using h)
  rw [e1, e2]
  have e3 : decide ((n.natAbs : Int) < 0) = false := by simp
  rw [e3, Int.natAbs_natCast]
  unfold Format.word
  have es : double.signWeight = 2 ^ 63 := by decide
  rw [es]
  have := hw (rung n.natAbs) (rung_lt _ (by omega) h) (decide (n < 0))
  simp only [Bool.false_eq_true, if_false]
  exact this
end Clk
namespace Clk
open Ieee Go Go.Ev
theorem read_1e9 : double.read 4741671816366391296 = .number false (1000000000 * 2 ^ 23) (-23) := by decide +kernel
theorem read_m1e9 : double.read 13965043853221167104 = .number true (1000000000 * 2 ^ 23) (-23) := by decide +kernel
theorem absW_eq (S : Nat) : Int.toNat (IntKind.wrap .u64 (((BitVec.toNat ((BitVec.ofInt 64 (((S : Nat)) : Int)) &&& (~~~(BitVec.ofInt 64 9223372036854775808)))) : Nat) : Int)) = S % 2 ^ 63 := by
 have hbv : (BitVec.ofInt 64 ((S : Nat) : Int)) &&& (~~~(BitVec.ofInt 64 9223372036854775808)) = BitVec.ofNat 64 (S % 2 ^ 63) := by
  have e1 : BitVec.ofInt 64 ((S : Nat) : Int) = BitVec.ofNat 64 S := by
   apply BitVec.eq_of_toNat_eq; simp
  have e2 : ~~~(BitVec.ofInt 64 9223372036854775808) = BitVec.ofNat 64 (2 ^ 63 - 1) := by decide
  rw [e1, e2]
  apply BitVec.eq_of_toNat_eq
  simp only [BitVec.toNat_and, BitVec.toNat_ofNat]
  rw [Nat.mod_eq_of_lt (show 2 ^ 63 - 1 < 2 ^ 64 by decide), Nat.and_two_pow_sub_one_eq_mod]
  omega
 rw [hbv, IntKind.wrap_u64]
 simp
 omega
theorem read_abs (S : Nat) : double.read (S % 2 ^ 63) = match double.read S with
  | .number _ m e => .number false m e
  | .infinity _ => .infinity false
  | .nan _ t => .nan false t := by
 have es : double.signWeight = 2 ^ 63 := by decide
 unfold Format.read
 rw [es]
 have e1 : S % 2 ^ 63 / 2 ^ 63 % 2 = 0 := by omega
 have e2 : S % 2 ^ 63 % 2 ^ 63 = S % 2 ^ 63 := by omega
 rw [e1, e2]
 have e3 : ((0 : Nat) == 1) = false := rfl
 simp only [e3]
 by_cases h1 : S % 2 ^ 63 < double.binade
 ·simp only [h1, if_true]
 ·simp only [h1, if_false]
  by_cases h2 : S % 2 ^ 63 < double.infRung
  ·simp only [h2, if_true]
  ·simp only [h2, if_false]
   by_cases h3 : S % 2 ^ 63 = double.infRung
   ·simp only [h3, if_true]
   ·simp only [h3, if_false]
theorem cmp_gt (a b : Int) : (some (compare a b) == some Ordering.gt) = decide (b < a) := by
 rcases Int.lt_trichotomy a b with q | q | q
 ·rw [Int.compare_eq_lt.2 q, decide_eq_false (by omega)]; rfl
 ·rw [Int.compare_eq_eq.2 q, decide_eq_false (by omega)]; rfl
 ·rw [Int.compare_eq_gt.2 q, decide_eq_true q]; rfl
theorem cmp_lt (a b : Int) : (some (compare a b) == some Ordering.lt) = decide (a < b) := by
 rcases Int.lt_trichotomy a b with q | q | q
 ·rw [Int.compare_eq_lt.2 q, decide_eq_true q]; rfl
 ·rw [Int.compare_eq_eq.2 q, decide_eq_false (by omega)]; rfl
 ·rw [Int.compare_eq_gt.2 q, decide_eq_false (by omega)]; rfl
theorem cmp_eq (a b : Int) : (some (compare a b) == some Ordering.eq) = decide (a = b) := by
 rcases Int.lt_trichotomy a b with q | q | q
 ·rw [Int.compare_eq_lt.2 q, decide_eq_false (by omega)]; rfl
 ·rw [Int.compare_eq_eq.2 q, decide_eq_true q]; rfl
 ·rw [Int.compare_eq_gt.2 q, decide_eq_false (by omega)]; rfl
theorem cut_le (s : Bool) (m : Nat) (e : Int) (h : m <<< (e - min e (-23)).toNat ≤ (1000000000 * 2 ^ 23) <<< (-23 - min e (-23)).toNat) : Toward.down.cut s (m <<< e.toNat) (-e).toNat ≤ 1000000000 := by
 have key : m <<< e.toNat ≤ 1000000000 * 2 ^ (-e).toNat := by
  simp only [Nat.shiftLeft_eq] at h ⊢
  rcases Int.lt_or_le e (-23) with q | q
  ·rw [Int.min_eq_left (by omega)] at h
   rw [show (e - e).toNat = 0 by omega, Nat.pow_zero, Nat.mul_one, Nat.mul_assoc, ← Nat.pow_add, show 23 + (-23 - e).toNat = (-e).toNat by omega] at h
   rw [show e.toNat = 0 by omega, Nat.pow_zero, Nat.mul_one]
   exact h
  ·rw [Int.min_eq_right q] at h
   rw [show (-23 - (-23) : Int).toNat = 0 by decide, Nat.pow_zero, Nat.mul_one] at h
   rcases Int.lt_or_le e 0 with q2 | q2
   ·rw [show e.toNat = 0 by omega, Nat.pow_zero, Nat.mul_one]
    have e1 : (2 : Nat) ^ 23 = 2 ^ (-e).toNat * 2 ^ (e - -23).toNat := by rw [← Nat.pow_add]; congr 1; omega
    rw [e1, ← Nat.mul_assoc] at h
    exact Nat.le_of_mul_le_mul_right h (Nat.two_pow_pos _)
   ·rw [show (-e).toNat = 0 by omega, Nat.pow_zero, Nat.mul_one]
    rw [show (e - -23).toNat = e.toNat + 23 by omega, Nat.pow_add, ← Nat.mul_assoc] at h
    exact Nat.le_of_mul_le_mul_right h (Nat.two_pow_pos _)
 generalize m <<< e.toNat = n at key
 generalize (-e).toNat = d at key
 unfold Toward.cut
 simp only [Nat.shiftLeft_eq, Nat.one_mul]
 have hb : (s && n % 2 ^ min d (n.log2 + 2) != 0).toNat ≤ 1 := by cases (s && n % 2 ^ min d (n.log2 + 2) != 0) <;> simp
 rcases Nat.lt_or_ge (n.log2 + 2) d with q | q
 ·rw [Nat.min_eq_right (by omega)] at hb ⊢
  have hl : n < 2 ^ (n.log2 + 2) := Nat.lt_trans Nat.lt_log2_self (Nat.pow_lt_pow_right (by decide) (by omega))
  rw [Nat.div_eq_of_lt hl]
  omega
 ·rw [Nat.min_eq_left q] at hb ⊢
  have hp : 0 < 2 ^ d := Nat.two_pow_pos d
  generalize 2 ^ d = g at key hp hb
  have h1 : n / g ≤ 1000000000 := by
   have := Nat.div_le_div_right (c := g) key
   rwa [Nat.mul_div_cancel _ hp] at this
  by_cases hr : n % g = 0
  ·rw [hr]
   have : (s && (0 : Nat) != 0).toNat = 0 := by cases s <;> rfl
   omega
  ·have h2 : n / g < 1000000000 := by
    rcases Nat.lt_or_ge (n / g) 1000000000 with q2 | q2
    ·exact q2
    ·exfalso
     have h3 := Nat.div_add_mod n g
     have h4 : g * 1000000000 ≤ g * (n / g) := Nat.mul_le_mul_left g q2
     rw [Nat.mul_comm] at h4
     omega
   omega
theorem sec_rej (S : Nat) : ((double.order S S != some Ordering.eq) || (double.order (S % 2 ^ 63) 4741671816366391296 == some Ordering.gt)) = !(((double.order S 13965043853221167104 == some Ordering.gt) || (double.order S 13965043853221167104 == some Ordering.eq)) && ((double.order S 4741671816366391296 == some Ordering.lt) || (double.order S 4741671816366391296 == some Ordering.eq))) := by
 unfold Format.order
 rw [read_abs, read_1e9, read_m1e9]
 cases h : double.read S with
 | nan s t => rfl
 | infinity s => cases s <;> rfl
 | number s m e =>
  simp only [Datum.order, bne, cmp_gt, cmp_lt, cmp_eq, signed, Bool.false_eq_true, if_false, if_true, decide_true, Bool.not_true, Bool.false_or]
  generalize (m <<< (e - min e (-23)).toNat) = A
  have hB : 0 < (1000000000 * 2 ^ 23) <<< (-23 - min e (-23)).toNat := by rw [Nat.shiftLeft_eq]; exact Nat.mul_pos (by decide) (Nat.two_pow_pos _)
  generalize (1000000000 * 2 ^ 23) <<< (-23 - min e (-23)).toNat = B at hB
  cases s
  ·simp only [Bool.false_eq_true, if_false]
   rw [Bool.eq_iff_iff]
   simp only [Bool.not_eq_true', Bool.and_eq_false_iff, Bool.or_eq_false_iff, decide_eq_true_eq, decide_eq_false_iff_not]
   omega
  ·simp only [if_true]
   rw [Bool.eq_iff_iff]
   simp only [Bool.not_eq_true', Bool.and_eq_false_iff, Bool.or_eq_false_iff, decide_eq_true_eq, decide_eq_false_iff_not]
   omega
theorem sec_num (S : Nat) (h : ((double.order S S != some Ordering.eq) || (double.order (S % 2 ^ 63) 4741671816366391296 == some Ordering.gt)) = false) : ∃ s m e, double.read S = .number s m e ∧ Toward.down.cut s (m <<< e.toNat) (-e).toNat ≤ 1000000000 := by
 unfold Format.order at h
 rw [read_abs, read_1e9] at h
 cases hr : double.read S with
 | nan s t => rw [hr] at h; cases h
 | infinity s => rw [hr] at h; cases s <;> cases h
 | number s m e =>
  rw [hr] at h
  refine ⟨s, m, e, rfl, cut_le s m e ?_⟩
  simp only [Datum.order, bne, cmp_gt, cmp_lt, cmp_eq, signed, Bool.false_eq_true, if_false, if_true, decide_true, Bool.not_true, Bool.false_or, decide_eq_false_iff_not] at h
  omega
theorem sec_in (S : Nat) (h : ((double.order S S != some Ordering.eq) || (double.order (S % 2 ^ 63) 4741671816366391296 == some Ordering.gt)) = false) : froundOk S = true ∧ f2iOk .f64 (fround .down S) .i64 = true ∧ -1000000000 ≤ f2i .f64 (fround .down S) ∧ f2i .f64 (fround .down S) ≤ 1000000000 := by
 obtain ⟨s, m, e, hr, hk⟩ := sec_num S h
 have h1 : froundOk S = true := by
  show (match double.read S with | .nan _ _ => false | _ => true) = true
  rw [hr]
 have h2 : fround .down S = double.write (.number s (Toward.down.cut s (m <<< e.toNat) (-e).toNat) 0) := by
  show double.write ((double.read S).integral .down) = _
  rw [hr]
  rfl
 rw [h1, h2]
 generalize Toward.down.cut s (m <<< e.toNat) (-e).toNat = k at hk
 by_cases h0 : k = 0
 ·subst h0
  cases s <;> decide +kernel
 ·cases s with
  | false =>
   have e1 : double.write (.number false k 0) = fo (k : Int) := by
    unfold fo
    rw [decide_eq_false (by omega), Int.natAbs_natCast]
   rw [e1, f2i_fo _ (by omega), f2iOk_fo _ (by omega)]
   exact ⟨rfl, rfl, by omega, by omega⟩
  | true =>
   have e1 : double.write (.number true k 0) = fo (-(k : Int)) := by
    unfold fo
    rw [decide_eq_true (by omega), Int.natAbs_neg, Int.natAbs_natCast]
   rw [e1, f2i_fo _ (by omega), f2iOk_fo _ (by omega)]
   exact ⟨rfl, rfl, by omega, by omega⟩
end Clk
