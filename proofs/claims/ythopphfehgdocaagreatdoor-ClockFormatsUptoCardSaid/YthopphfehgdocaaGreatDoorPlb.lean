import Derived.Test.YthopphfehgdocaaGreatDoorPla
import Derived.Test.YthopphfehgdocaaGreatDoorRef6
import Derived.Lib.ItoaLen
set_option linter.unusedSimpArgs false
set_option linter.unusedVariables false
namespace Go.Proofs.YthopphfehgdocaaGreatDoor
open Go Go.RowKit Go.Ev Go.Proofs Go.Shelf
theorem decDigits_ne (u : Nat) : 1 ≤ (Lib.decDigits u).length := by
 rw [Lib.decDigits]
 split
 ·exact Nat.le_refl 1
 ·rw [List.length_append]
  exact Nat.le_add_left 1 _
theorem itoa_sz {n : Int} (h : i64F n = true) : 1 ≤ (itoaF n).size ∧ (itoaF n).size ≤ 21 := by
 unfold i64F at h
 simp only [Bool.and_eq_true, decide_eq_true_eq] at h
 have e : (itoaF n).size = (Lib.itoa n).length := rfl
 rw [e]
 refine ⟨?_, Lib.itoa_length_le n h.1 h.2⟩
 unfold Lib.itoa
 split
 ·rw [List.length_cons]; omega
 ·exact decDigits_ne _
def rpK (w : Int) (z : Nat) : Int := if IntKind.i64.wrap (w - ((z : Nat) : Int)) > 0 then IntKind.i64.wrap (w - ((z : Nat) : Int)) else 0
theorem rpK_val (w : Int) (z : Nat) (w0 : 0 ≤ w) (w1 : w ≤ 3) (z1 : z ≤ 30) : rpK w z = if (z : Int) < w then w - z else 0 := by
 unfold rpK
 rw [wrap_id _ (by omega) (by omega)]
 split <;> split <;> omega
theorem rep0 (c : UInt8) : repF ⟨#[c]⟩ 0 = ⟨#[]⟩ := rfl
theorem rep1 (c : UInt8) : repF ⟨#[c]⟩ 1 = ⟨#[c]⟩ := rfl
theorem rep2 (c : UInt8) : repF ⟨#[c]⟩ 2 = ⟨#[c, c]⟩ := rfl
theorem ba_assoc (a b c : ByteArray) : a ++ b ++ c = a ++ (b ++ c) := ByteArray.append_assoc
theorem ba_e (a : ByteArray) : (⟨#[]⟩ : ByteArray) ++ a = a := ByteArray.empty_append
structure PadOf (w : Int) (c : UInt8) (P s R : ByteArray) : Prop where
 e : (P ++ repF ⟨#[c]⟩ (rpK w s.size)) ++ s = P ++ R
 k : repOkF (ByteArray.mk (List.toArray [c])) (rpK w s.size) = true
 s1 : decide ((((P.size + (repF ⟨#[c]⟩ (rpK w s.size)).size : Nat)) : Int) ≤ Int.ofNat (9223372036854775808 - 1)) = true
 s2 : decide (((((P ++ repF ⟨#[c]⟩ (rpK w s.size)).size + s.size : Nat)) : Int) ≤ Int.ofNat (9223372036854775808 - 1)) = true
theorem pad2 (c : UInt8) (P s : ByteArray) (h1 : 1 ≤ s.size) (h2 : s.size ≤ 21) (hP : P.size ≤ 1) : PadOf 2 c P s (bif decide ((((s.size : Nat)) : Int) < 2) then (ByteArray.mk #[c]) ++ s else s) := by
 have hv := rpK_val 2 s.size (by omega) (by omega) (by omega)
 by_cases h : s.size = 1
 ·rw [if_pos (by omega), h] at hv
  have hv' : rpK 2 s.size = 1 := by rw [h]; exact hv
  have hd : decide ((((s.size : Nat)) : Int) < 2) = true := decide_eq_true (by omega)
  refine ⟨?_, ?_, ?_, ?_⟩
  ·rw [hv', rep1, hd, cond_true, ba_assoc]
  ·rw [hv']; rfl
  ·rw [hv', rep1]
   have : (ByteArray.mk #[c]).size = 1 := rfl
   rw [this]
   exact decide_eq_true (by show _ ≤ (9223372036854775807 : Int); omega)
  ·rw [hv', rep1, ByteArray.size_append]
   have : (ByteArray.mk #[c]).size = 1 := rfl
   rw [this]
   exact decide_eq_true (by show _ ≤ (9223372036854775807 : Int); omega)
 ·rw [if_neg (by omega)] at hv
  have hd : decide ((((s.size : Nat)) : Int) < 2) = false := decide_eq_false (by omega)
  refine ⟨?_, ?_, ?_, ?_⟩
  ·rw [hv, rep0, hd, cond_false, ba_assoc, ba_e]
  ·rw [hv]; rfl
  ·rw [hv, rep0]
   have : (ByteArray.mk #[]).size = 0 := rfl
   rw [this]
   exact decide_eq_true (by show _ ≤ (9223372036854775807 : Int); omega)
  ·rw [hv, rep0, ByteArray.size_append]
   have : (ByteArray.mk #[]).size = 0 := rfl
   rw [this]
   exact decide_eq_true (by show _ ≤ (9223372036854775807 : Int); omega)
theorem pad3 (c : UInt8) (P s : ByteArray) (h1 : 1 ≤ s.size) (h2 : s.size ≤ 21) (hP : P.size ≤ 1) : PadOf 3 c P s (bif decide (((s.size : Nat) : Int) < 3) then (bif decide ((((⟨#[c]⟩ ++ s : ByteArray).size : Nat) : Int) < 3) then ⟨#[c]⟩ ++ (⟨#[c]⟩ ++ s) else ⟨#[c]⟩ ++ s) else s) := by
 have hv := rpK_val 3 s.size (by omega) (by omega) (by omega)
 have hcs : (⟨#[c]⟩ ++ s : ByteArray).size = 1 + s.size := by rw [ByteArray.size_append]; rfl
 have z0 : (ByteArray.mk #[]).size = 0 := rfl
 have z1 : (ByteArray.mk #[c]).size = 1 := rfl
 have z2 : (ByteArray.mk #[c, c]).size = 2 := rfl
 by_cases h : s.size = 1
 ·rw [if_pos (by omega)] at hv
  have hv' : rpK 3 s.size = 2 := by rw [hv]; omega
  have hd : decide ((((s.size : Nat)) : Int) < 3) = true := decide_eq_true (by omega)
  have hd2 : decide (((((⟨#[c]⟩ ++ s : ByteArray).size : Nat)) : Int) < 3) = true := decide_eq_true (by omega)
  refine ⟨?_, ?_, ?_, ?_⟩
  ·rw [hv', rep2, hd, cond_true, hd2, cond_true, ba_assoc, ← ba_assoc ⟨#[c]⟩ ⟨#[c]⟩ s]
   rfl
  ·rw [hv']; rfl
  ·rw [hv', rep2, z2]
   exact decide_eq_true (by show _ ≤ (9223372036854775807 : Int); omega)
  ·rw [hv', rep2, ByteArray.size_append, z2]
   exact decide_eq_true (by show _ ≤ (9223372036854775807 : Int); omega)
 by_cases h' : s.size = 2
 ·rw [if_pos (by omega)] at hv
  have hv' : rpK 3 s.size = 1 := by rw [hv]; omega
  have hd : decide ((((s.size : Nat)) : Int) < 3) = true := decide_eq_true (by omega)
  have hd2 : decide (((((⟨#[c]⟩ ++ s : ByteArray).size : Nat)) : Int) < 3) = false := decide_eq_false (by omega)
  refine ⟨?_, ?_, ?_, ?_⟩
  ·rw [hv', rep1, hd, cond_true, hd2, cond_false, ba_assoc]
  ·rw [hv']; rfl
  ·rw [hv', rep1, z1]
   exact decide_eq_true (by show _ ≤ (9223372036854775807 : Int); omega)
  ·rw [hv', rep1, ByteArray.size_append, z1]
   exact decide_eq_true (by show _ ≤ (9223372036854775807 : Int); omega)
 ·rw [if_neg (by omega)] at hv
  have hd : decide ((((s.size : Nat)) : Int) < 3) = false := decide_eq_false (by omega)
  refine ⟨?_, ?_, ?_, ?_⟩
  ·rw [hv, rep0, hd, cond_false, ba_assoc, ba_e]
  ·rw [hv]; rfl
  ·rw [hv, rep0, z0]
   exact decide_eq_true (by show _ ≤ (9223372036854775807 : Int); omega)
  ·rw [hv, rep0, ByteArray.size_append, z0]
   exact decide_eq_true (by show _ ≤ (9223372036854775807 : Int); omega)
structure DirOf (tC tR : ByteArray) (oC oR : Bool) : Prop where
 e : tC = tR
 c : oC = true
 r : oR = true
 lo : 1 ≤ tR.size
 hi : tR.size ≤ 23
theorem i64_of {k : Int} (h0 : -9223372036854775808 ≤ k) (h1 : k ≤ 9223372036854775807) : i64F k = true := by
 unfold i64F
 simp only [Bool.and_eq_true, decide_eq_true_eq]
 exact ⟨h0, h1⟩
theorem pad_r (c : UInt8) (s : ByteArray) (h1 : 1 ≤ s.size) (h2 : s.size ≤ 21) : (bif decide ((((s.size : Nat)) : Int) < 2) then (decide ((((((ByteArray.mk #[c]).size + s.size) : Nat) : Int)) ≤ Int.ofNat (9223372036854775808 - 1)) && ((!(decide ((((((ByteArray.mk #[c]) ++ s).size : Nat) : Int)) < 2))) && true)) else true) = true ∧ 1 ≤ (bif decide ((((s.size : Nat)) : Int) < 2) then (ByteArray.mk #[c]) ++ s else s).size ∧ (bif decide ((((s.size : Nat)) : Int) < 2) then (ByteArray.mk #[c]) ++ s else s).size ≤ 22 := by
 have hcs : (⟨#[c]⟩ ++ s : ByteArray).size = 1 + s.size := by rw [ByteArray.size_append]; rfl
 have z1 : (ByteArray.mk #[c]).size = 1 := rfl
 by_cases h : s.size = 1
 ·have hd : decide ((((s.size : Nat)) : Int) < 2) = true := decide_eq_true (by omega)
  have hd2 : decide ((((((ByteArray.mk #[c]) ++ s).size : Nat) : Int)) < 2) = false := decide_eq_false (by omega)
  have hd3 : decide ((((((ByteArray.mk #[c]).size + s.size) : Nat) : Int)) ≤ Int.ofNat (9223372036854775808 - 1)) = true := decide_eq_true (by show _ ≤ (9223372036854775807 : Int); omega)
  rw [hd, cond_true, cond_true, hd2, hd3, hcs]
  exact ⟨rfl, by omega, by omega⟩
 ·have hd : decide ((((s.size : Nat)) : Int) < 2) = false := decide_eq_false (by omega)
  rw [hd, cond_false, cond_false]
  exact ⟨rfl, by omega, by omega⟩
theorem two_all {k : Int} (h0 : 0 ≤ k) (h1 : k ≤ 9223372036854775807) : DirOf (ctwo0F k) (rtwo0F k) (ctwoOkF k) (rtwoOkF k) := by
 have hi := i64_of (k := k) (by omega) h1
 obtain ⟨z1, z2⟩ := itoa_sz hi
 have d0 : decide (k < 0) = false := decide_eq_false (by omega)
 have p := pad2 48 ⟨#[]⟩ (itoaF k) z1 z2 (by decide)
 have r := pad_r 48 (itoaF k) z1 z2
 refine ⟨?_, ?_, ?_, r.2.1, by have := r.2.2; show (bif _ then _ else _ : ByteArray).size ≤ 23; omega⟩
 ·unfold ctwo0F
  rw [d0, cond_false]
  exact p.e.trans (ba_e _)
 ·unfold ctwoOkF
  rw [d0, cond_false, hi]
  have a := p.k
  have b := p.s1
  have c := p.s2
  unfold rpK at a b c
  simp only [a, b, c, Bool.and_self]
 ·unfold rtwoOkF
  rw [hi, Bool.true_and]
  exact r.1
theorem two_neg {k : Int} (h0 : k < 0) (h1 : -9223372036854775807 ≤ k) : DirOf (ctwo0F k) ((ByteArray.mk #[45]) ++ rtwo0F (IntKind.i64.wrap (0 - k))) (ctwoOkF k) (rtwoOkF (IntKind.i64.wrap (0 - k)) && (decide ((((((ByteArray.mk #[45]).size + (rtwo0F (IntKind.i64.wrap (0 - k))).size) : Nat) : Int)) ≤ Int.ofNat (9223372036854775808 - 1)) && true)) := by
 have hw : IntKind.i64.wrap (0 - k) = -k := by rw [wrap_id _ (by omega) (by omega)]; omega
 have hi := i64_of (k := -k) (by omega) (by omega)
 obtain ⟨z1, z2⟩ := itoa_sz hi
 have d0 : decide (k < 0) = true := decide_eq_true (by omega)
 have p := pad2 48 ⟨#[45]⟩ (itoaF (-k)) z1 z2 (by decide)
 have r := pad_r 48 (itoaF (-k)) z1 z2
 have z3 : (ByteArray.mk #[45]).size = 1 := rfl
 have hr : (rtwo0F (-k)).size ≤ 22 := r.2.2
 rw [hw]
 refine ⟨?_, ?_, ?_, by rw [ByteArray.size_append]; omega, by rw [ByteArray.size_append]; omega⟩
 ·unfold ctwo0F
  rw [d0, cond_true, hw]
  exact p.e
 ·unfold ctwoOkF
  rw [d0, cond_true, hw, hi]
  have a := p.k
  have b := p.s1
  have c := p.s2
  unfold rpK at a b c
  simp only [a, b, c, Bool.and_self]
 ·have e : rtwoOkF (-k) = true := by
   unfold rtwoOkF
   rw [hi, Bool.true_and]
   exact r.1
  rw [e, z3]
  have : decide ((((1 + (rtwo0F (-k)).size : Nat)) : Int) ≤ Int.ofNat (9223372036854775808 - 1)) = true := decide_eq_true (by show _ ≤ (9223372036854775807 : Int); omega)
  rw [this]
  rfl
theorem itoa_all {k : Int} (h0 : -9223372036854775808 ≤ k) (h1 : k ≤ 9223372036854775807) : DirOf (itoaF k) (itoaF k) (i64F k) (i64F k) := by
 have hi := i64_of h0 h1
 obtain ⟨z1, z2⟩ := itoa_sz hi
 exact ⟨rfl, hi, hi, z1, by omega⟩
theorem rflo_val (n b : Int) (hb : 0 < b) (h0 : -1000000000000000000 ≤ n) (h1 : n ≤ 1000000000000000000) : rflo0F n b = n / b := by
 have e := Clk.divide_eq n b hb
 have q1 : -1000000000000000000 ≤ n / b := by
  rcases Int.lt_or_le n 0 with q | q
  ·have : n ≤ n / b := by
    have h2 := Int.mul_ediv_add_emod n b
    have h3 := Int.emod_nonneg n (b := b) (by omega)
    have h4 : n / b < 0 := Int.ediv_neg_of_neg_of_pos q hb
    have h5 : b * (n / b) ≤ 1 * (n / b) := Int.mul_le_mul_of_nonpos_right (by omega) (by omega)
    have h6 := Int.emod_lt_of_pos n hb
    rcases Int.lt_or_le (n / b) n with h7 | h7
    ·exfalso
     have h8 : n / b ≤ n - 1 := by omega
     have h9 : b * (n / b) ≤ b * (n - 1) := Int.mul_le_mul_of_nonneg_left h8 (by omega)
     have h10 : b * (n - 1) + b = b * n := by rw [Int.mul_sub, Int.mul_one]; omega
     have h11 : b * n ≤ 1 * n := Int.mul_le_mul_of_nonpos_right (by omega) (by omega)
     omega
    ·exact h7
   omega
  ·have := Int.ediv_nonneg q (by omega : 0 ≤ b)
   omega
 have q2 : n / b ≤ 1000000000000000000 := by
  rcases Int.lt_or_le n 0 with q | q
  ·have := Int.ediv_neg_of_neg_of_pos q hb
   omega
  ·have := Int.ediv_le_self b q
   omega
 unfold rflo0F
 by_cases hm : Int.tmod n b < 0
 ·rw [if_pos hm] at e
  have e1 := congrArg Prod.fst e
  simp only at e1
  rw [decide_eq_true hm, cond_true, wrap_id (Int.tdiv n b) (by omega) (by omega), wrap_id _ (by omega) (by omega)]
  exact e1
 ·rw [if_neg hm] at e
  have e1 := congrArg Prod.fst e
  simp only at e1
  rw [decide_eq_false hm, cond_false, wrap_id (Int.tdiv n b) (by omega) (by omega)]
  exact e1
end Go.Proofs.YthopphfehgdocaaGreatDoor
