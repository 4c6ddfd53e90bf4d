import Derived.Test.YthopphfehgdocaaGreatDoorRef6
set_option linter.unusedSimpArgs false
set_option linter.unusedVariables false
namespace Go.Proofs.YthopphfehgdocaaGreatDoor
open Go Go.RowKit Go.Ev Go.Proofs Go.Shelf
def p89_0F (Y M D ho mi : Int) (S : Nat) (W J n : Int) : ByteArray := (itoaF Y)
def p89_1F (Y M D ho mi : Int) (S : Nat) (W J n : Int) : Bool := true
def p89_OkF (Y M D ho mi : Int) (S : Nat) (W J n : Int) : Bool := (((rdayOkF Y 0 1)) && (((rwksOkF (rflo0F n 86400))) && (((i64F Y)) && true)))
theorem p89__ev (Y M D ho mi : Int) (S : Nat) (W J n : Int) (hok : p89_OkF Y M D ho mi S W J n = true) : ∃ H' nx', evFunc (withFns cx0 laT lpE) 120 118 #[tmA Y M D ho mi S W J, .int .i64 n, .int .u8 89] H0 12 = some ((Value.tuple #[(Value.string (p89_0F Y M D ho mi S W J n)), (Value.bool (p89_1F Y M D ho mi S W J n))]), H', nx') := by
 unfold p89_OkF at hok
 obtain ⟨c0_, hok⟩ := aO hok
 obtain ⟨c1_, hok⟩ := aO hok
 obtain ⟨c2_, hok⟩ := aO hok
 unfold p89_0F p89_1F
 try simp only [c0_, c1_, c2_, cond_true, cond_false]
 exact oS ((hkW laT lpE)) (m := (bitsN 14 8216)) (p := (bitsN 6 32)) (aC (bT c0_) (aC (bT c1_) (aC (bT c2_) aN)))
def p72_0F (Y M D ho mi : Int) (S : Nat) (W J n : Int) : ByteArray := (rtwo0F ho)
def p72_1F (Y M D ho mi : Int) (S : Nat) (W J n : Int) : Bool := true
def p72_OkF (Y M D ho mi : Int) (S : Nat) (W J n : Int) : Bool := (((rdayOkF Y 0 1)) && (((rwksOkF (rflo0F n 86400))) && (((rtwoOkF ho)) && true)))
theorem p72__ev (Y M D ho mi : Int) (S : Nat) (W J n : Int) (hok : p72_OkF Y M D ho mi S W J n = true) : ∃ H' nx', evFunc (withFns cx0 laT lpE) 120 118 #[tmA Y M D ho mi S W J, .int .i64 n, .int .u8 72] H0 12 = some ((Value.tuple #[(Value.string (p72_0F Y M D ho mi S W J n)), (Value.bool (p72_1F Y M D ho mi S W J n))]), H', nx') := by
 unfold p72_OkF at hok
 obtain ⟨c0_, hok⟩ := aO hok
 obtain ⟨c1_, hok⟩ := aO hok
 obtain ⟨c2_, hok⟩ := aO hok
 unfold p72_0F p72_1F
 try simp only [c0_, c1_, c2_, cond_true, cond_false]
 exact oS ((hkW laT lpE)) (m := (bitsN 20 524312)) (p := (bitsN 12 2048)) (aC (bT c0_) (aC (bT c1_) (aC (bT c2_) aN)))
def p117_0F (Y M D ho mi : Int) (S : Nat) (W J n : Int) : ByteArray := (itoaF (IntKind.i64.wrap ((Int.tmod (IntKind.i64.wrap ((Int.tmod (IntKind.i64.wrap ((Int.tmod (IntKind.i64.wrap ((rflo0F n 86400) + 4)) 7) + 7)) 7) + 6)) 7) + 1)))
def p117_1F (Y M D ho mi : Int) (S : Nat) (W J n : Int) : Bool := true
def p117_OkF (Y M D ho mi : Int) (S : Nat) (W J n : Int) : Bool := (((rdayOkF Y 0 1)) && (((rwksOkF (rflo0F n 86400))) && (((i64F (IntKind.i64.wrap ((Int.tmod (IntKind.i64.wrap ((Int.tmod (IntKind.i64.wrap ((Int.tmod (IntKind.i64.wrap ((rflo0F n 86400) + 4)) 7) + 7)) 7) + 6)) 7) + 1)))) && true)))
theorem p117__ev (Y M D ho mi : Int) (S : Nat) (W J n : Int) (hok : p117_OkF Y M D ho mi S W J n = true) : ∃ H' nx', evFunc (withFns cx0 laT lpE) 120 118 #[tmA Y M D ho mi S W J, .int .i64 n, .int .u8 117] H0 12 = some ((Value.tuple #[(Value.string (p117_0F Y M D ho mi S W J n)), (Value.bool (p117_1F Y M D ho mi S W J n))]), H', nx') := by
 unfold p117_OkF at hok
 obtain ⟨c0_, hok⟩ := aO hok
 obtain ⟨c1_, hok⟩ := aO hok
 obtain ⟨c2_, hok⟩ := aO hok
 unfold p117_0F p117_1F
 try simp only [c0_, c1_, c2_, cond_true, cond_false]
 exact oS ((hkW laT lpE)) (m := (bitsN 30 536870936)) (p := (bitsN 21 1048576)) (aC (bT c0_) (aC (bT c1_) (aC (bT c2_) aN)))
def p103_0F (Y M D ho mi : Int) (S : Nat) (W J n : Int) : ByteArray := (rtwo0F (IntKind.i64.wrap ((rwks0F (rflo0F n 86400)) - (IntKind.i64.wrap (100 * (rflo0F (rwks0F (rflo0F n 86400)) 100))))))
def p103_1F (Y M D ho mi : Int) (S : Nat) (W J n : Int) : Bool := true
def p103_OkF (Y M D ho mi : Int) (S : Nat) (W J n : Int) : Bool := (((rdayOkF Y 0 1)) && (((rwksOkF (rflo0F n 86400))) && (((rtwoOkF (IntKind.i64.wrap ((rwks0F (rflo0F n 86400)) - (IntKind.i64.wrap (100 * (rflo0F (rwks0F (rflo0F n 86400)) 100))))))) && true)))
theorem p103__ev (Y M D ho mi : Int) (S : Nat) (W J n : Int) (hok : p103_OkF Y M D ho mi S W J n = true) : ∃ H' nx', evFunc (withFns cx0 laT lpE) 120 118 #[tmA Y M D ho mi S W J, .int .i64 n, .int .u8 103] H0 12 = some ((Value.tuple #[(Value.string (p103_0F Y M D ho mi S W J n)), (Value.bool (p103_1F Y M D ho mi S W J n))]), H', nx') := by
 unfold p103_OkF at hok
 obtain ⟨c0_, hok⟩ := aO hok
 obtain ⟨c1_, hok⟩ := aO hok
 obtain ⟨c2_, hok⟩ := aO hok
 unfold p103_0F p103_1F
 try simp only [c0_, c1_, c2_, cond_true, cond_false]
 exact oS ((hkW laT lpE)) (m := (bitsN 36 34359738392)) (p := (bitsN 27 67108864)) (aC (bT c0_) (aC (bT c1_) (aC (bT c2_) aN)))
def p90_0F (Y M D ho mi : Int) (S : Nat) (W J n : Int) : ByteArray := (ByteArray.mk #[85, 84, 67])
def p90_1F (Y M D ho mi : Int) (S : Nat) (W J n : Int) : Bool := true
def p90_OkF (Y M D ho mi : Int) (S : Nat) (W J n : Int) : Bool := (((rdayOkF Y 0 1)) && (((rwksOkF (rflo0F n 86400))) && true))
theorem p90__ev (Y M D ho mi : Int) (S : Nat) (W J n : Int) (hok : p90_OkF Y M D ho mi S W J n = true) : ∃ H' nx', evFunc (withFns cx0 laT lpE) 120 118 #[tmA Y M D ho mi S W J, .int .i64 n, .int .u8 90] H0 12 = some ((Value.tuple #[(Value.string (p90_0F Y M D ho mi S W J n)), (Value.bool (p90_1F Y M D ho mi S W J n))]), H', nx') := by
 unfold p90_OkF at hok
 obtain ⟨c0_, hok⟩ := aO hok
 obtain ⟨c1_, hok⟩ := aO hok
 unfold p90_0F p90_1F
 try simp only [c0_, c1_, cond_true, cond_false]
 exact oS ((hkW laT lpE)) (m := (bitsN 5 24)) (p := (bitsN 33 4294967296)) (aC (bT c0_) (aC (bT c1_) aN))
set_option maxRecDepth 100000
def p67_0F (Y M D ho mi : Int) (S : Nat) (W J n : Int) : ByteArray := (bif (decide ((rflo0F Y 100) < 0)) then ((ByteArray.mk #[45]) ++ (rtwo0F (IntKind.i64.wrap (0 - (rflo0F Y 100))))) else (rtwo0F (rflo0F Y 100)))
def p67_1F (Y M D ho mi : Int) (S : Nat) (W J n : Int) : Bool := true
def p67_OkF (Y M D ho mi : Int) (S : Nat) (W J n : Int) : Bool := (((rdayOkF Y 0 1)) && (((rwksOkF (rflo0F n 86400))) && (bif (decide ((rflo0F Y 100) < 0)) then (((rtwoOkF (IntKind.i64.wrap (0 - (rflo0F Y 100))))) && (((decide ((((((ByteArray.size (ByteArray.mk #[45])) + (ByteArray.size (rtwo0F (IntKind.i64.wrap (0 - (rflo0F Y 100)))))) : Nat) : Int)) ≤ (Int.ofNat (9223372036854775808 - 1))))) && true)) else (((rtwoOkF (rflo0F Y 100))) && true))))
theorem p67__ev (Y M D ho mi : Int) (S : Nat) (W J n : Int) (hok : p67_OkF Y M D ho mi S W J n = true) : ∃ H' nx', evFunc (withFns cx0 laT lpE) 120 118 #[tmA Y M D ho mi S W J, .int .i64 n, .int .u8 67] H0 12 = some ((Value.tuple #[(Value.string (p67_0F Y M D ho mi S W J n)), (Value.bool (p67_1F Y M D ho mi S W J n))]), H', nx') := by
 unfold p67_OkF at hok
 obtain ⟨c0_, hok⟩ := aO hok
 obtain ⟨c1_, hok⟩ := aO hok
 cases c2_ : ((decide ((rflo0F Y 100) < 0))) with
 | true =>
  have c3_ : ((rtwoOkF (IntKind.i64.wrap (0 - (rflo0F Y 100))))) = true := by
   simp only [c0_, c1_, c2_, Bool.and_eq_true, Bool.not_eq_true', cond_true, cond_false] at hok
   first | exact hok.1 | (simp only [Bool.not_eq_true']; exact hok.1)
  replace hok := by
   simp only [c0_, c1_, c2_, c3_, Bool.not_true, Bool.not_false, Bool.true_and, cond_true, cond_false] at hok
   exact hok
  obtain ⟨c4_, hok⟩ := aO hok
  unfold p67_0F p67_1F
  try simp only [c0_, c1_, c2_, c3_, c4_, cond_true, cond_false]
  exact oS ((hkW laT lpE)) (m := (bitsN 18 229400)) (p := (bitsN 8 192)) (aC (bT c0_) (aC (bT c1_) (aC (bT c2_) (aC (bT c3_) (aC c4_ aN)))))
 | false =>
  have c3_ : ((rtwoOkF (rflo0F Y 100))) = true := by
   simp only [c0_, c1_, c2_, Bool.and_eq_true, Bool.not_eq_true', cond_true, cond_false] at hok
   first | exact hok.1 | (simp only [Bool.not_eq_true']; exact hok.1)
  replace hok := by
   simp only [c0_, c1_, c2_, c3_, Bool.not_true, Bool.not_false, Bool.true_and, cond_true, cond_false] at hok
   exact hok
  unfold p67_0F p67_1F
  try simp only [c0_, c1_, c2_, c3_, cond_true, cond_false]
  exact oS ((hkW laT lpE)) (m := (bitsN 17 98328)) (p := (bitsN 8 64)) (aC (bT c0_) (aC (bT c1_) (aC (bF c2_) (aC (bT c3_) aN))))
def p107_0F (Y M D ho mi : Int) (S : Nat) (W J n : Int) : ByteArray := (bif (decide (((((ByteArray.size (itoaF ho)) : Nat) : Int)) < 2)) then ((ByteArray.mk #[32]) ++ (itoaF ho)) else (itoaF ho))
def p107_1F (Y M D ho mi : Int) (S : Nat) (W J n : Int) : Bool := true
def p107_OkF (Y M D ho mi : Int) (S : Nat) (W J n : Int) : Bool := (((rdayOkF Y 0 1)) && (((rwksOkF (rflo0F n 86400))) && (((i64F ho)) && (bif (decide (((((ByteArray.size (itoaF ho)) : Nat) : Int)) < 2)) then (((decide ((((((ByteArray.size (ByteArray.mk #[32])) + (ByteArray.size (itoaF ho))) : Nat) : Int)) ≤ (Int.ofNat (9223372036854775808 - 1))))) && ((!((decide (((((ByteArray.size ((ByteArray.mk #[32]) ++ (itoaF ho))) : Nat) : Int)) < 2)))) && true)) else true))))
theorem p107__ev (Y M D ho mi : Int) (S : Nat) (W J n : Int) (hok : p107_OkF Y M D ho mi S W J n = true) : ∃ H' nx', evFunc (withFns cx0 laT lpE) 120 118 #[tmA Y M D ho mi S W J, .int .i64 n, .int .u8 107] H0 12 = some ((Value.tuple #[(Value.string (p107_0F Y M D ho mi S W J n)), (Value.bool (p107_1F Y M D ho mi S W J n))]), H', nx') := by
 unfold p107_OkF at hok
 obtain ⟨c0_, hok⟩ := aO hok
 obtain ⟨c1_, hok⟩ := aO hok
 obtain ⟨c2_, hok⟩ := aO hok
 cases c3_ : ((decide (((((ByteArray.size (itoaF ho)) : Nat) : Int)) < 2))) with
 | true =>
  have c4_ : ((decide ((((((ByteArray.size (ByteArray.mk #[32])) + (ByteArray.size (itoaF ho))) : Nat) : Int)) ≤ (Int.ofNat (9223372036854775808 - 1))))) = true := by
   simp only [c0_, c1_, c2_, c3_, Bool.and_eq_true, Bool.not_eq_true', cond_true, cond_false] at hok
   first | exact hok.1 | (simp only [Bool.not_eq_true']; exact hok.1)
  replace hok := by
   simp only [c0_, c1_, c2_, c3_, c4_, Bool.not_true, Bool.not_false, Bool.true_and, cond_true, cond_false] at hok
   exact hok
  obtain ⟨c5_, hok⟩ := nO hok
  unfold p107_0F p107_1F
  try simp only [c0_, c1_, c2_, c3_, c4_, c5_, cond_true, cond_false]
  exact oS ((hkW laT lpE)) (m := (bitsN 24 15728664)) (p := (bitsN 15 12288)) (aC (bT c0_) (aC (bT c1_) (aC (bT c2_) (aC (bT c3_) (aC c4_ (aC (bF c5_) aN))))))
 | false =>
  unfold p107_0F p107_1F
  try simp only [c0_, c1_, c2_, c3_, cond_true, cond_false]
  exact oS ((hkW laT lpE)) (m := (bitsN 22 3145752)) (p := (bitsN 14 4096)) (aC (bT c0_) (aC (bT c1_) (aC (bT c2_) (aC (bF c3_) aN))))
def p119_0F (Y M D ho mi : Int) (S : Nat) (W J n : Int) : ByteArray := (itoaF (Int.tmod (IntKind.i64.wrap ((Int.tmod (IntKind.i64.wrap ((rflo0F n 86400) + 4)) 7) + 7)) 7))
def p119_1F (Y M D ho mi : Int) (S : Nat) (W J n : Int) : Bool := true
def p119_OkF (Y M D ho mi : Int) (S : Nat) (W J n : Int) : Bool := (((rdayOkF Y 0 1)) && (((rwksOkF (rflo0F n 86400))) && (((i64F (Int.tmod (IntKind.i64.wrap ((Int.tmod (IntKind.i64.wrap ((rflo0F n 86400) + 4)) 7) + 7)) 7))) && true)))
theorem p119__ev (Y M D ho mi : Int) (S : Nat) (W J n : Int) (hok : p119_OkF Y M D ho mi S W J n = true) : ∃ H' nx', evFunc (withFns cx0 laT lpE) 120 118 #[tmA Y M D ho mi S W J, .int .i64 n, .int .u8 119] H0 12 = some ((Value.tuple #[(Value.string (p119_0F Y M D ho mi S W J n)), (Value.bool (p119_1F Y M D ho mi S W J n))]), H', nx') := by
 unfold p119_OkF at hok
 obtain ⟨c0_, hok⟩ := aO hok
 obtain ⟨c1_, hok⟩ := aO hok
 obtain ⟨c2_, hok⟩ := aO hok
 unfold p119_0F p119_1F
 try simp only [c0_, c1_, c2_, cond_true, cond_false]
 exact oS ((hkW laT lpE)) (m := (bitsN 30 536870936)) (p := (bitsN 22 2097152)) (aC (bT c0_) (aC (bT c1_) (aC (bT c2_) aN)))
def p115_0F (Y M D ho mi : Int) (S : Nat) (W J n : Int) : ByteArray := (itoaF n)
def p115_1F (Y M D ho mi : Int) (S : Nat) (W J n : Int) : Bool := true
def p115_OkF (Y M D ho mi : Int) (S : Nat) (W J n : Int) : Bool := (((rdayOkF Y 0 1)) && (((rwksOkF (rflo0F n 86400))) && (((i64F n)) && true)))
theorem p115__ev (Y M D ho mi : Int) (S : Nat) (W J n : Int) (hok : p115_OkF Y M D ho mi S W J n = true) : ∃ H' nx', evFunc (withFns cx0 laT lpE) 120 118 #[tmA Y M D ho mi S W J, .int .i64 n, .int .u8 115] H0 12 = some ((Value.tuple #[(Value.string (p115_0F Y M D ho mi S W J n)), (Value.bool (p115_1F Y M D ho mi S W J n))]), H', nx') := by
 unfold p115_OkF at hok
 obtain ⟨c0_, hok⟩ := aO hok
 obtain ⟨c1_, hok⟩ := aO hok
 obtain ⟨c2_, hok⟩ := aO hok
 unfold p115_0F p115_1F
 try simp only [c0_, c1_, c2_, cond_true, cond_false]
 exact oS ((hkW laT lpE)) (m := (bitsN 36 34359738392)) (p := (bitsN 28 134217728)) (aC (bT c0_) (aC (bT c1_) (aC (bT c2_) aN)))
theorem p106__p0 (Y M D ho mi : Int) (S : Nat) (W J n : Int) (h1 : ((rdayOkF Y 0 1) == true) = true) (h2 : ((rwksOkF (rflo0F n 86400)) == true) = true) (h3 : ((i64F (IntKind.i64.wrap ((IntKind.i64.wrap ((rflo0F n 86400) - (rday0F Y 0 1))) + 1))) == true) = true) (h4 : ((decide (((((ByteArray.size (itoaF (IntKind.i64.wrap ((IntKind.i64.wrap ((rflo0F n 86400) - (rday0F Y 0 1))) + 1)))) : Nat) : Int)) < 3)) == true) = true) (h5 : (decide ((((((ByteArray.size (ByteArray.mk #[48])) + (ByteArray.size (itoaF (IntKind.i64.wrap ((IntKind.i64.wrap ((rflo0F n 86400) - (rday0F Y 0 1))) + 1))))) : Nat) : Int)) ≤ (Int.ofNat (9223372036854775808 - 1)))) = true) (h6 : ((decide (((((ByteArray.size ((ByteArray.mk #[48]) ++ (itoaF (IntKind.i64.wrap ((IntKind.i64.wrap ((rflo0F n 86400) - (rday0F Y 0 1))) + 1))))) : Nat) : Int)) < 3)) == true) = true) (h7 : (decide ((((((ByteArray.size (ByteArray.mk #[48])) + (ByteArray.size ((ByteArray.mk #[48]) ++ (itoaF (IntKind.i64.wrap ((IntKind.i64.wrap ((rflo0F n 86400) - (rday0F Y 0 1))) + 1)))))) : Nat) : Int)) ≤ (Int.ofNat (9223372036854775808 - 1)))) = true) (h8 : ((decide (((((ByteArray.size ((ByteArray.mk #[48]) ++ ((ByteArray.mk #[48]) ++ (itoaF (IntKind.i64.wrap ((IntKind.i64.wrap ((rflo0F n 86400) - (rday0F Y 0 1))) + 1)))))) : Nat) : Int)) < 3)) == false) = true) : ∃ H' nx', evFunc (withFns cx0 laT lpE) 120 118 #[.agg #[.int .i64 Y, .int .i64 M, .int .i64 D, .int .i64 ho, .int .i64 mi, .float .f64 S, .int .i64 W, .int .i64 J], .int .i64 n, .int .u8 106] H0 12 = some ((Value.tuple #[(Value.string ((ByteArray.mk #[48]) ++ ((ByteArray.mk #[48]) ++ (itoaF (IntKind.i64.wrap ((IntKind.i64.wrap ((rflo0F n 86400) - (rday0F Y 0 1))) + 1)))))), (Value.bool true)]), H', nx') :=
 oS ((hkW laT lpE)) (m := (bitsN 31 2113929240)) (p := (bitsN 21 917504)) (aC h1 (aC h2 (aC h3 (aC h4 (aC h5 (aC h6 (aC h7 (aC h8 aN))))))))
theorem eqt {b : Bool} (h : b = true) : (b == true) = true := by rw [h]; rfl
theorem eqf {b : Bool} (h : b = false) : (b == false) = true := by rw [h]; rfl
theorem itoa_pos (n : Int) : 1 ≤ (itoaF n).size := by
 have h : ∀ u, 1 ≤ (Lib.decDigits u).length := by
  intro u
  rw [Lib.decDigits]
  split <;> simp
 show 1 ≤ (Lib.itoa n).toArray.size
 unfold Lib.itoa
 split
 ·simp
 ·simpa using h _
def ydF (Y n : Int) : Int := (IntKind.i64.wrap ((IntKind.i64.wrap ((rflo0F n 86400) - (rday0F Y 0 1))) + 1))
def pad3F (s : ByteArray) : ByteArray := bif decide (((s.size : Nat) : Int) < 3) then (bif decide ((((⟨#[48]⟩ ++ s : ByteArray).size : Nat) : Int) < 3) then ⟨#[48]⟩ ++ (⟨#[48]⟩ ++ s) else ⟨#[48]⟩ ++ s) else s
def p106_0F (Y M D ho mi : Int) (S : Nat) (W J n : Int) : ByteArray := pad3F (itoaF (ydF Y n))
def p106_OkF (Y M D ho mi : Int) (S : Nat) (W J n : Int) : Bool := rdayOkF Y 0 1 && (rwksOkF (rflo0F n 86400) && i64F (ydF Y n))
theorem p106__ev (Y M D ho mi : Int) (S : Nat) (W J n : Int) (hok : p106_OkF Y M D ho mi S W J n = true) : ∃ H' nx', evFunc (withFns cx0 laT lpE) 120 118 #[tmA Y M D ho mi S W J, .int .i64 n, .int .u8 106] H0 12 = some (.tuple #[.string (p106_0F Y M D ho mi S W J n), .bool true], H', nx') := by
 unfold p106_OkF at hok
 simp only [Bool.and_eq_true] at hok
 obtain ⟨k1, k2, k3⟩ := hok
 have k3' := k3
 unfold i64F at k3'
 simp only [Bool.and_eq_true, decide_eq_true_eq] at k3'
 have hz := itoa_size (ydF Y n) k3'.1 k3'.2
 have hz1 : (ByteArray.mk #[48]).size = 1 := rfl
 unfold p106_0F pad3F
 cases q1 : decide ((((itoaF (ydF Y n)).size : Nat) : Int) < 3) with
 | false => exact oS ((hkW laT lpE)) (m := (bitsN 27 100663320)) (p := (bitsN 19 131072)) (aC (bT k1) (aC (bT k2) (aC (bT k3) (aC (bF q1) aN))))
 | true =>
  have c1 := str_cond (ByteArray.mk #[48]) (itoaF (ydF Y n)) (by omega)
  cases q2 : decide ((((ByteArray.mk #[48] ++ itoaF (ydF Y n)).size : Nat) : Int) < 3) with
  | true =>
   have c2 := str_cond (ByteArray.mk #[48]) (ByteArray.mk #[48] ++ itoaF (ydF Y n)) (by rw [ByteArray.size_append]; omega)
   exact p106__p0 Y M D ho mi S W J n (eqt k1) (eqt k2) (eqt k3) (eqt q1) c1 (eqt q2) c2 (eqf (by
    rw [decide_eq_false_iff_not, ByteArray.size_append, ByteArray.size_append]
    have := itoa_pos (ydF Y n)
    show ¬ (((1 + (1 + (itoaF (ydF Y n)).size) : Nat) : Int) < 3)
    omega))
  | false => exact oS ((hkW laT lpE)) (m := (bitsN 29 503316504)) (p := (bitsN 20 393216)) (aC (eqt k1) (aC (eqt k2) (aC (eqt k3) (aC (eqt q1) (aC c1 (aC (eqf q2) aN))))))
def p121_0F (Y M D ho mi : Int) (S : Nat) (W J n : Int) : ByteArray := (rtwo0F (IntKind.i64.wrap (Y - (IntKind.i64.wrap (100 * (rflo0F Y 100))))))
def p121_1F (Y M D ho mi : Int) (S : Nat) (W J n : Int) : Bool := true
def p121_OkF (Y M D ho mi : Int) (S : Nat) (W J n : Int) : Bool := (((rdayOkF Y 0 1)) && (((rwksOkF (rflo0F n 86400))) && (((rtwoOkF (IntKind.i64.wrap (Y - (IntKind.i64.wrap (100 * (rflo0F Y 100))))))) && true)))
theorem p121__ev (Y M D ho mi : Int) (S : Nat) (W J n : Int) (hok : p121_OkF Y M D ho mi S W J n = true) : ∃ H' nx', evFunc (withFns cx0 laT lpE) 120 118 #[tmA Y M D ho mi S W J, .int .i64 n, .int .u8 121] H0 12 = some ((Value.tuple #[(Value.string (p121_0F Y M D ho mi S W J n)), (Value.bool (p121_1F Y M D ho mi S W J n))]), H', nx') := by
 unfold p121_OkF at hok
 obtain ⟨c0_, hok⟩ := aO hok
 obtain ⟨c1_, hok⟩ := aO hok
 obtain ⟨c2_, hok⟩ := aO hok
 unfold p121_0F p121_1F
 try simp only [c0_, c1_, c2_, cond_true, cond_false]
 exact oS ((hkW laT lpE)) (m := (bitsN 18 131096)) (p := (bitsN 8 128)) (aC (bT c0_) (aC (bT c1_) (aC (bT c2_) aN)))
def p73_0F (Y M D ho mi : Int) (S : Nat) (W J n : Int) : ByteArray := (rtwo0F (IntKind.i64.wrap ((Int.tmod (IntKind.i64.wrap (ho + 11)) 12) + 1)))
def p73_1F (Y M D ho mi : Int) (S : Nat) (W J n : Int) : Bool := true
def p73_OkF (Y M D ho mi : Int) (S : Nat) (W J n : Int) : Bool := (((rdayOkF Y 0 1)) && (((rwksOkF (rflo0F n 86400))) && (((rtwoOkF (IntKind.i64.wrap ((Int.tmod (IntKind.i64.wrap (ho + 11)) 12) + 1)))) && true)))
theorem p73__ev (Y M D ho mi : Int) (S : Nat) (W J n : Int) (hok : p73_OkF Y M D ho mi S W J n = true) : ∃ H' nx', evFunc (withFns cx0 laT lpE) 120 118 #[tmA Y M D ho mi S W J, .int .i64 n, .int .u8 73] H0 12 = some ((Value.tuple #[(Value.string (p73_0F Y M D ho mi S W J n)), (Value.bool (p73_1F Y M D ho mi S W J n))]), H', nx') := by
 unfold p73_OkF at hok
 obtain ⟨c0_, hok⟩ := aO hok
 obtain ⟨c1_, hok⟩ := aO hok
 obtain ⟨c2_, hok⟩ := aO hok
 unfold p73_0F p73_1F
 try simp only [c0_, c1_, c2_, cond_true, cond_false]
 exact oS ((hkW laT lpE)) (m := (bitsN 22 2097176)) (p := (bitsN 14 8192)) (aC (bT c0_) (aC (bT c1_) (aC (bT c2_) aN)))
def p85_0F (Y M D ho mi : Int) (S : Nat) (W J n : Int) : ByteArray := (rtwo0F (rwks2F (rflo0F n 86400)))
def p85_1F (Y M D ho mi : Int) (S : Nat) (W J n : Int) : Bool := true
def p85_OkF (Y M D ho mi : Int) (S : Nat) (W J n : Int) : Bool := (((rdayOkF Y 0 1)) && (((rwksOkF (rflo0F n 86400))) && (((rtwoOkF (rwks2F (rflo0F n 86400)))) && true)))
theorem p85__ev (Y M D ho mi : Int) (S : Nat) (W J n : Int) (hok : p85_OkF Y M D ho mi S W J n = true) : ∃ H' nx', evFunc (withFns cx0 laT lpE) 120 118 #[tmA Y M D ho mi S W J, .int .i64 n, .int .u8 85] H0 12 = some ((Value.tuple #[(Value.string (p85_0F Y M D ho mi S W J n)), (Value.bool (p85_1F Y M D ho mi S W J n))]), H', nx') := by
 unfold p85_OkF at hok
 obtain ⟨c0_, hok⟩ := aO hok
 obtain ⟨c1_, hok⟩ := aO hok
 obtain ⟨c2_, hok⟩ := aO hok
 unfold p85_0F p85_1F
 try simp only [c0_, c1_, c2_, cond_true, cond_false]
 exact oS ((hkW laT lpE)) (m := (bitsN 31 1073741848)) (p := (bitsN 23 4194304)) (aC (bT c0_) (aC (bT c1_) (aC (bT c2_) aN)))
def p110_0F (Y M D ho mi : Int) (S : Nat) (W J n : Int) : ByteArray := (ByteArray.mk #[10])
def p110_1F (Y M D ho mi : Int) (S : Nat) (W J n : Int) : Bool := true
def p110_OkF (Y M D ho mi : Int) (S : Nat) (W J n : Int) : Bool := (((rdayOkF Y 0 1)) && (((rwksOkF (rflo0F n 86400))) && true))
theorem p110__ev (Y M D ho mi : Int) (S : Nat) (W J n : Int) (hok : p110_OkF Y M D ho mi S W J n = true) : ∃ H' nx', evFunc (withFns cx0 laT lpE) 120 118 #[tmA Y M D ho mi S W J, .int .i64 n, .int .u8 110] H0 12 = some ((Value.tuple #[(Value.string (p110_0F Y M D ho mi S W J n)), (Value.bool (p110_1F Y M D ho mi S W J n))]), H', nx') := by
 unfold p110_OkF at hok
 obtain ⟨c0_, hok⟩ := aO hok
 obtain ⟨c1_, hok⟩ := aO hok
 unfold p110_0F p110_1F
 try simp only [c0_, c1_, cond_true, cond_false]
 exact oS ((hkW laT lpE)) (m := (bitsN 5 24)) (p := (bitsN 29 268435456)) (aC (bT c0_) (aC (bT c1_) aN))
def pq_0F (Y M D ho mi : Int) (S : Nat) (W J n c : Int) : ByteArray := (ByteArray.mk #[])
def pq_1F (Y M D ho mi : Int) (S : Nat) (W J n c : Int) : Bool := false
def pq_OkF (Y M D ho mi : Int) (S : Nat) (W J n c : Int) : Bool := (((rdayOkF Y 0 1)) && (((rwksOkF (rflo0F n 86400))) && ((!((c == 97))) && ((!((c == 65))) && ((!((c == 98))) && ((!((c == 104))) && ((!((c == 66))) && ((!((c == 89))) && ((!((c == 67))) && ((!((c == 121))) && ((!((c == 109))) && ((!((c == 100))) && ((!((c == 101))) && ((!((c == 72))) && ((!((c == 107))) && ((!((c == 73))) && ((!((c == 108))) && ((!((c == 77))) && ((!((c == 83))) && ((!((c == 106))) && ((!((c == 112))) && ((!((c == 80))) && ((!((c == 117))) && ((!((c == 119))) && ((!((c == 85))) && ((!((c == 87))) && ((!((c == 86))) && ((!((c == 71))) && ((!((c == 103))) && ((!((c == 115))) && ((!((c == 110))) && ((!((c == 116))) && ((!((c == 37))) && ((!((c == 122))) && ((!((c == 90))) && true)))))))))))))))))))))))))))))))))))
theorem pq__ev (Y M D ho mi : Int) (S : Nat) (W J n c : Int) (hok : pq_OkF Y M D ho mi S W J n c = true) : ∃ H' nx', evFunc (withFns cx0 laT lpE) 120 118 #[tmA Y M D ho mi S W J, .int .i64 n, .int .u8 c] H0 12 = some ((Value.tuple #[(Value.string (pq_0F Y M D ho mi S W J n c)), (Value.bool (pq_1F Y M D ho mi S W J n c))]), H', nx') := by
 unfold pq_OkF at hok
 obtain ⟨c0_, hok⟩ := aO hok
 obtain ⟨c1_, hok⟩ := aO hok
 obtain ⟨c2_, hok⟩ := nO hok
 obtain ⟨c3_, hok⟩ := nO hok
 obtain ⟨c4_, hok⟩ := nO hok
 obtain ⟨c5_, hok⟩ := nO hok
 obtain ⟨c6_, hok⟩ := nO hok
 obtain ⟨c7_, hok⟩ := nO hok
 obtain ⟨c8_, hok⟩ := nO hok
 obtain ⟨c9_, hok⟩ := nO hok
 obtain ⟨c10_, hok⟩ := nO hok
 obtain ⟨c11_, hok⟩ := nO hok
 obtain ⟨c12_, hok⟩ := nO hok
 obtain ⟨c13_, hok⟩ := nO hok
 obtain ⟨c14_, hok⟩ := nO hok
 obtain ⟨c15_, hok⟩ := nO hok
 obtain ⟨c16_, hok⟩ := nO hok
 obtain ⟨c17_, hok⟩ := nO hok
 obtain ⟨c18_, hok⟩ := nO hok
 obtain ⟨c19_, hok⟩ := nO hok
 obtain ⟨c20_, hok⟩ := nO hok
 obtain ⟨c21_, hok⟩ := nO hok
 obtain ⟨c22_, hok⟩ := nO hok
 obtain ⟨c23_, hok⟩ := nO hok
 obtain ⟨c24_, hok⟩ := nO hok
 obtain ⟨c25_, hok⟩ := nO hok
 obtain ⟨c26_, hok⟩ := nO hok
 obtain ⟨c27_, hok⟩ := nO hok
 obtain ⟨c28_, hok⟩ := nO hok
 obtain ⟨c29_, hok⟩ := nO hok
 obtain ⟨c30_, hok⟩ := nO hok
 obtain ⟨c31_, hok⟩ := nO hok
 obtain ⟨c32_, hok⟩ := nO hok
 obtain ⟨c33_, hok⟩ := nO hok
 obtain ⟨c34_, hok⟩ := nO hok
 unfold pq_0F pq_1F
 try simp only [c0_, c1_, c2_, c3_, c4_, c5_, c6_, c7_, c8_, c9_, c10_, c11_, c12_, c13_, c14_, c15_, c16_, c17_, c18_, c19_, c20_, c21_, c22_, c23_, c24_, c25_, c26_, c27_, c28_, c29_, c30_, c31_, c32_, c33_, c34_, cond_true, cond_false]
 exact oS ((hkW laT lpE)) (m := (bitsN 40 1099511627672)) (p := (bitsN 33 0)) (aC (bT c0_) (aC (bT c1_) (aC (bF c2_) (aC (bF c3_) (aC (bF c4_) (aC (bF c5_) (aC (bF c6_) (aC (bF c7_) (aC (bF c8_) (aC (bF c9_) (aC (bF c10_) (aC (bF c11_) (aC (bF c12_) (aC (bF c13_) (aC (bF c14_) (aC (bF c15_) (aC (bF c16_) (aC (bF c17_) (aC (bF c18_) (aC (bF c19_) (aC (bF c20_) (aC (bF c21_) (aC (bF c22_) (aC (bF c23_) (aC (bF c24_) (aC (bF c25_) (aC (bF c26_) (aC (bF c27_) (aC (bF c28_) (aC (bF c29_) (aC (bF c30_) (aC (bF c31_) (aC (bF c32_) (aC (bF c33_) (aC (bF c34_) aN)))))))))))))))))))))))))))))))))))
def p109_0F (Y M D ho mi : Int) (S : Nat) (W J n : Int) : ByteArray := (rtwo0F (IntKind.i64.wrap (M + 1)))
def p109_1F (Y M D ho mi : Int) (S : Nat) (W J n : Int) : Bool := true
def p109_OkF (Y M D ho mi : Int) (S : Nat) (W J n : Int) : Bool := (((rdayOkF Y 0 1)) && (((rwksOkF (rflo0F n 86400))) && (((rtwoOkF (IntKind.i64.wrap (M + 1)))) && true)))
theorem p109__ev (Y M D ho mi : Int) (S : Nat) (W J n : Int) (hok : p109_OkF Y M D ho mi S W J n = true) : ∃ H' nx', evFunc (withFns cx0 laT lpE) 120 118 #[tmA Y M D ho mi S W J, .int .i64 n, .int .u8 109] H0 12 = some ((Value.tuple #[(Value.string (p109_0F Y M D ho mi S W J n)), (Value.bool (p109_1F Y M D ho mi S W J n))]), H', nx') := by
 unfold p109_OkF at hok
 obtain ⟨c0_, hok⟩ := aO hok
 obtain ⟨c1_, hok⟩ := aO hok
 obtain ⟨c2_, hok⟩ := aO hok
 unfold p109_0F p109_1F
 try simp only [c0_, c1_, c2_, cond_true, cond_false]
 exact oS ((hkW laT lpE)) (m := (bitsN 17 65560)) (p := (bitsN 9 256)) (aC (bT c0_) (aC (bT c1_) (aC (bT c2_) aN)))
def p108_0F (Y M D ho mi : Int) (S : Nat) (W J n : Int) : ByteArray := (bif (decide (((((ByteArray.size (itoaF (IntKind.i64.wrap ((Int.tmod (IntKind.i64.wrap (ho + 11)) 12) + 1)))) : Nat) : Int)) < 2)) then ((ByteArray.mk #[32]) ++ (itoaF (IntKind.i64.wrap ((Int.tmod (IntKind.i64.wrap (ho + 11)) 12) + 1)))) else (itoaF (IntKind.i64.wrap ((Int.tmod (IntKind.i64.wrap (ho + 11)) 12) + 1))))
def p108_1F (Y M D ho mi : Int) (S : Nat) (W J n : Int) : Bool := true
def p108_OkF (Y M D ho mi : Int) (S : Nat) (W J n : Int) : Bool := (((rdayOkF Y 0 1)) && (((rwksOkF (rflo0F n 86400))) && (((i64F (IntKind.i64.wrap ((Int.tmod (IntKind.i64.wrap (ho + 11)) 12) + 1)))) && (bif (decide (((((ByteArray.size (itoaF (IntKind.i64.wrap ((Int.tmod (IntKind.i64.wrap (ho + 11)) 12) + 1)))) : Nat) : Int)) < 2)) then (((decide ((((((ByteArray.size (ByteArray.mk #[32])) + (ByteArray.size (itoaF (IntKind.i64.wrap ((Int.tmod (IntKind.i64.wrap (ho + 11)) 12) + 1))))) : Nat) : Int)) ≤ (Int.ofNat (9223372036854775808 - 1))))) && ((!((decide (((((ByteArray.size ((ByteArray.mk #[32]) ++ (itoaF (IntKind.i64.wrap ((Int.tmod (IntKind.i64.wrap (ho + 11)) 12) + 1))))) : Nat) : Int)) < 2)))) && true)) else true))))
theorem p108__ev (Y M D ho mi : Int) (S : Nat) (W J n : Int) (hok : p108_OkF Y M D ho mi S W J n = true) : ∃ H' nx', evFunc (withFns cx0 laT lpE) 120 118 #[tmA Y M D ho mi S W J, .int .i64 n, .int .u8 108] H0 12 = some ((Value.tuple #[(Value.string (p108_0F Y M D ho mi S W J n)), (Value.bool (p108_1F Y M D ho mi S W J n))]), H', nx') := by
 unfold p108_OkF at hok
 obtain ⟨c0_, hok⟩ := aO hok
 obtain ⟨c1_, hok⟩ := aO hok
 obtain ⟨c2_, hok⟩ := aO hok
 cases c3_ : ((decide (((((ByteArray.size (itoaF (IntKind.i64.wrap ((Int.tmod (IntKind.i64.wrap (ho + 11)) 12) + 1)))) : Nat) : Int)) < 2))) with
 | true =>
  have c4_ : ((decide ((((((ByteArray.size (ByteArray.mk #[32])) + (ByteArray.size (itoaF (IntKind.i64.wrap ((Int.tmod (IntKind.i64.wrap (ho + 11)) 12) + 1))))) : Nat) : Int)) ≤ (Int.ofNat (9223372036854775808 - 1))))) = true := by
   simp only [c0_, c1_, c2_, c3_, Bool.and_eq_true, Bool.not_eq_true', cond_true, cond_false] at hok
   first | exact hok.1 | (simp only [Bool.not_eq_true']; exact hok.1)
  replace hok := by
   simp only [c0_, c1_, c2_, c3_, c4_, Bool.not_true, Bool.not_false, Bool.true_and, cond_true, cond_false] at hok
   exact hok
  obtain ⟨c5_, hok⟩ := nO hok
  unfold p108_0F p108_1F
  try simp only [c0_, c1_, c2_, c3_, c4_, c5_, cond_true, cond_false]
  exact oS ((hkW laT lpE)) (m := (bitsN 26 62914584)) (p := (bitsN 17 49152)) (aC (bT c0_) (aC (bT c1_) (aC (bT c2_) (aC (bT c3_) (aC c4_ (aC (bF c5_) aN))))))
 | false =>
  unfold p108_0F p108_1F
  try simp only [c0_, c1_, c2_, c3_, cond_true, cond_false]
  exact oS ((hkW laT lpE)) (m := (bitsN 24 12582936)) (p := (bitsN 16 16384)) (aC (bT c0_) (aC (bT c1_) (aC (bT c2_) (aC (bF c3_) aN))))
def p87_0F (Y M D ho mi : Int) (S : Nat) (W J n : Int) : ByteArray := (rtwo0F (rwks3F (rflo0F n 86400)))
def p87_1F (Y M D ho mi : Int) (S : Nat) (W J n : Int) : Bool := true
def p87_OkF (Y M D ho mi : Int) (S : Nat) (W J n : Int) : Bool := (((rdayOkF Y 0 1)) && (((rwksOkF (rflo0F n 86400))) && (((rtwoOkF (rwks3F (rflo0F n 86400)))) && true)))
theorem p87__ev (Y M D ho mi : Int) (S : Nat) (W J n : Int) (hok : p87_OkF Y M D ho mi S W J n = true) : ∃ H' nx', evFunc (withFns cx0 laT lpE) 120 118 #[tmA Y M D ho mi S W J, .int .i64 n, .int .u8 87] H0 12 = some ((Value.tuple #[(Value.string (p87_0F Y M D ho mi S W J n)), (Value.bool (p87_1F Y M D ho mi S W J n))]), H', nx') := by
 unfold p87_OkF at hok
 obtain ⟨c0_, hok⟩ := aO hok
 obtain ⟨c1_, hok⟩ := aO hok
 obtain ⟨c2_, hok⟩ := aO hok
 unfold p87_0F p87_1F
 try simp only [c0_, c1_, c2_, cond_true, cond_false]
 exact oS ((hkW laT lpE)) (m := (bitsN 32 2147483672)) (p := (bitsN 24 8388608)) (aC (bT c0_) (aC (bT c1_) (aC (bT c2_) aN)))
def p116_0F (Y M D ho mi : Int) (S : Nat) (W J n : Int) : ByteArray := (ByteArray.mk #[9])
def p116_1F (Y M D ho mi : Int) (S : Nat) (W J n : Int) : Bool := true
def p116_OkF (Y M D ho mi : Int) (S : Nat) (W J n : Int) : Bool := (((rdayOkF Y 0 1)) && (((rwksOkF (rflo0F n 86400))) && true))
theorem p116__ev (Y M D ho mi : Int) (S : Nat) (W J n : Int) (hok : p116_OkF Y M D ho mi S W J n = true) : ∃ H' nx', evFunc (withFns cx0 laT lpE) 120 118 #[tmA Y M D ho mi S W J, .int .i64 n, .int .u8 116] H0 12 = some ((Value.tuple #[(Value.string (p116_0F Y M D ho mi S W J n)), (Value.bool (p116_1F Y M D ho mi S W J n))]), H', nx') := by
 unfold p116_OkF at hok
 obtain ⟨c0_, hok⟩ := aO hok
 obtain ⟨c1_, hok⟩ := aO hok
 unfold p116_0F p116_1F
 try simp only [c0_, c1_, cond_true, cond_false]
 exact oS ((hkW laT lpE)) (m := (bitsN 5 24)) (p := (bitsN 30 536870912)) (aC (bT c0_) (aC (bT c1_) aN))
def p100_0F (Y M D ho mi : Int) (S : Nat) (W J n : Int) : ByteArray := (rtwo0F D)
def p100_1F (Y M D ho mi : Int) (S : Nat) (W J n : Int) : Bool := true
def p100_OkF (Y M D ho mi : Int) (S : Nat) (W J n : Int) : Bool := (((rdayOkF Y 0 1)) && (((rwksOkF (rflo0F n 86400))) && (((rtwoOkF D)) && true)))
theorem p100__ev (Y M D ho mi : Int) (S : Nat) (W J n : Int) (hok : p100_OkF Y M D ho mi S W J n = true) : ∃ H' nx', evFunc (withFns cx0 laT lpE) 120 118 #[tmA Y M D ho mi S W J, .int .i64 n, .int .u8 100] H0 12 = some ((Value.tuple #[(Value.string (p100_0F Y M D ho mi S W J n)), (Value.bool (p100_1F Y M D ho mi S W J n))]), H', nx') := by
 unfold p100_OkF at hok
 obtain ⟨c0_, hok⟩ := aO hok
 obtain ⟨c1_, hok⟩ := aO hok
 obtain ⟨c2_, hok⟩ := aO hok
 unfold p100_0F p100_1F
 try simp only [c0_, c1_, c2_, cond_true, cond_false]
 exact oS ((hkW laT lpE)) (m := (bitsN 18 131096)) (p := (bitsN 10 512)) (aC (bT c0_) (aC (bT c1_) (aC (bT c2_) aN)))
def p77_0F (Y M D ho mi : Int) (S : Nat) (W J n : Int) : ByteArray := (rtwo0F mi)
def p77_1F (Y M D ho mi : Int) (S : Nat) (W J n : Int) : Bool := true
def p77_OkF (Y M D ho mi : Int) (S : Nat) (W J n : Int) : Bool := (((rdayOkF Y 0 1)) && (((rwksOkF (rflo0F n 86400))) && (((rtwoOkF mi)) && true)))
theorem p77__ev (Y M D ho mi : Int) (S : Nat) (W J n : Int) (hok : p77_OkF Y M D ho mi S W J n = true) : ∃ H' nx', evFunc (withFns cx0 laT lpE) 120 118 #[tmA Y M D ho mi S W J, .int .i64 n, .int .u8 77] H0 12 = some ((Value.tuple #[(Value.string (p77_0F Y M D ho mi S W J n)), (Value.bool (p77_1F Y M D ho mi S W J n))]), H', nx') := by
 unfold p77_OkF at hok
 obtain ⟨c0_, hok⟩ := aO hok
 obtain ⟨c1_, hok⟩ := aO hok
 obtain ⟨c2_, hok⟩ := aO hok
 unfold p77_0F p77_1F
 try simp only [c0_, c1_, c2_, cond_true, cond_false]
 exact oS ((hkW laT lpE)) (m := (bitsN 24 8388632)) (p := (bitsN 16 32768)) (aC (bT c0_) (aC (bT c1_) (aC (bT c2_) aN)))
def p86_0F (Y M D ho mi : Int) (S : Nat) (W J n : Int) : ByteArray := (rtwo0F (rwks1F (rflo0F n 86400)))
def p86_1F (Y M D ho mi : Int) (S : Nat) (W J n : Int) : Bool := true
def p86_OkF (Y M D ho mi : Int) (S : Nat) (W J n : Int) : Bool := (((rdayOkF Y 0 1)) && (((rwksOkF (rflo0F n 86400))) && (((rtwoOkF (rwks1F (rflo0F n 86400)))) && true)))
theorem p86__ev (Y M D ho mi : Int) (S : Nat) (W J n : Int) (hok : p86_OkF Y M D ho mi S W J n = true) : ∃ H' nx', evFunc (withFns cx0 laT lpE) 120 118 #[tmA Y M D ho mi S W J, .int .i64 n, .int .u8 86] H0 12 = some ((Value.tuple #[(Value.string (p86_0F Y M D ho mi S W J n)), (Value.bool (p86_1F Y M D ho mi S W J n))]), H', nx') := by
 unfold p86_OkF at hok
 obtain ⟨c0_, hok⟩ := aO hok
 obtain ⟨c1_, hok⟩ := aO hok
 obtain ⟨c2_, hok⟩ := aO hok
 unfold p86_0F p86_1F
 try simp only [c0_, c1_, c2_, cond_true, cond_false]
 exact oS ((hkW laT lpE)) (m := (bitsN 33 4294967320)) (p := (bitsN 25 16777216)) (aC (bT c0_) (aC (bT c1_) (aC (bT c2_) aN)))
def p37_0F (Y M D ho mi : Int) (S : Nat) (W J n : Int) : ByteArray := (ByteArray.mk #[37])
def p37_1F (Y M D ho mi : Int) (S : Nat) (W J n : Int) : Bool := true
def p37_OkF (Y M D ho mi : Int) (S : Nat) (W J n : Int) : Bool := (((rdayOkF Y 0 1)) && (((rwksOkF (rflo0F n 86400))) && true))
theorem p37__ev (Y M D ho mi : Int) (S : Nat) (W J n : Int) (hok : p37_OkF Y M D ho mi S W J n = true) : ∃ H' nx', evFunc (withFns cx0 laT lpE) 120 118 #[tmA Y M D ho mi S W J, .int .i64 n, .int .u8 37] H0 12 = some ((Value.tuple #[(Value.string (p37_0F Y M D ho mi S W J n)), (Value.bool (p37_1F Y M D ho mi S W J n))]), H', nx') := by
 unfold p37_OkF at hok
 obtain ⟨c0_, hok⟩ := aO hok
 obtain ⟨c1_, hok⟩ := aO hok
 unfold p37_0F p37_1F
 try simp only [c0_, c1_, cond_true, cond_false]
 exact oS ((hkW laT lpE)) (m := (bitsN 5 24)) (p := (bitsN 31 1073741824)) (aC (bT c0_) (aC (bT c1_) aN))
def p101_0F (Y M D ho mi : Int) (S : Nat) (W J n : Int) : ByteArray := (bif (decide (((((ByteArray.size (itoaF D)) : Nat) : Int)) < 2)) then ((ByteArray.mk #[32]) ++ (itoaF D)) else (itoaF D))
def p101_1F (Y M D ho mi : Int) (S : Nat) (W J n : Int) : Bool := true
def p101_OkF (Y M D ho mi : Int) (S : Nat) (W J n : Int) : Bool := (((rdayOkF Y 0 1)) && (((rwksOkF (rflo0F n 86400))) && (((i64F D)) && (bif (decide (((((ByteArray.size (itoaF D)) : Nat) : Int)) < 2)) then (((decide ((((((ByteArray.size (ByteArray.mk #[32])) + (ByteArray.size (itoaF D))) : Nat) : Int)) ≤ (Int.ofNat (9223372036854775808 - 1))))) && ((!((decide (((((ByteArray.size ((ByteArray.mk #[32]) ++ (itoaF D))) : Nat) : Int)) < 2)))) && true)) else true))))
theorem p101__ev (Y M D ho mi : Int) (S : Nat) (W J n : Int) (hok : p101_OkF Y M D ho mi S W J n = true) : ∃ H' nx', evFunc (withFns cx0 laT lpE) 120 118 #[tmA Y M D ho mi S W J, .int .i64 n, .int .u8 101] H0 12 = some ((Value.tuple #[(Value.string (p101_0F Y M D ho mi S W J n)), (Value.bool (p101_1F Y M D ho mi S W J n))]), H', nx') := by
 unfold p101_OkF at hok
 obtain ⟨c0_, hok⟩ := aO hok
 obtain ⟨c1_, hok⟩ := aO hok
 obtain ⟨c2_, hok⟩ := aO hok
 cases c3_ : ((decide (((((ByteArray.size (itoaF D)) : Nat) : Int)) < 2))) with
 | true =>
  have c4_ : ((decide ((((((ByteArray.size (ByteArray.mk #[32])) + (ByteArray.size (itoaF D))) : Nat) : Int)) ≤ (Int.ofNat (9223372036854775808 - 1))))) = true := by
   simp only [c0_, c1_, c2_, c3_, Bool.and_eq_true, Bool.not_eq_true', cond_true, cond_false] at hok
   first | exact hok.1 | (simp only [Bool.not_eq_true']; exact hok.1)
  replace hok := by
   simp only [c0_, c1_, c2_, c3_, c4_, Bool.not_true, Bool.not_false, Bool.true_and, cond_true, cond_false] at hok
   exact hok
  obtain ⟨c5_, hok⟩ := nO hok
  unfold p101_0F p101_1F
  try simp only [c0_, c1_, c2_, c3_, c4_, c5_, cond_true, cond_false]
  exact oS ((hkW laT lpE)) (m := (bitsN 22 3932184)) (p := (bitsN 13 3072)) (aC (bT c0_) (aC (bT c1_) (aC (bT c2_) (aC (bT c3_) (aC c4_ (aC (bF c5_) aN))))))
 | false =>
  unfold p101_0F p101_1F
  try simp only [c0_, c1_, c2_, c3_, cond_true, cond_false]
  exact oS ((hkW laT lpE)) (m := (bitsN 20 786456)) (p := (bitsN 12 1024)) (aC (bT c0_) (aC (bT c1_) (aC (bT c2_) (aC (bF c3_) aN))))
def p83_0F (Y M D ho mi : Int) (S : Nat) (W J n : Int) : ByteArray := (rtwo0F (f2i FloatKind.f64 (fround .down S)))
def p83_1F (Y M D ho mi : Int) (S : Nat) (W J n : Int) : Bool := true
def p83_OkF (Y M D ho mi : Int) (S : Nat) (W J n : Int) : Bool := (((rdayOkF Y 0 1)) && (((rwksOkF (rflo0F n 86400))) && (((froundOk S)) && (((f2iOk FloatKind.f64 (fround .down S) IntKind.i64)) && (((rtwoOkF (f2i FloatKind.f64 (fround .down S)))) && true)))))
theorem p83__ev (Y M D ho mi : Int) (S : Nat) (W J n : Int) (hok : p83_OkF Y M D ho mi S W J n = true) : ∃ H' nx', evFunc (withFns cx0 laT lpE) 120 118 #[tmA Y M D ho mi S W J, .int .i64 n, .int .u8 83] H0 12 = some ((Value.tuple #[(Value.string (p83_0F Y M D ho mi S W J n)), (Value.bool (p83_1F Y M D ho mi S W J n))]), H', nx') := by
 unfold p83_OkF at hok
 obtain ⟨c0_, hok⟩ := aO hok
 obtain ⟨c1_, hok⟩ := aO hok
 obtain ⟨c2_, hok⟩ := aO hok
 obtain ⟨c3_, hok⟩ := aO hok
 obtain ⟨c4_, hok⟩ := aO hok
 unfold p83_0F p83_1F
 try simp only [c0_, c1_, c2_, c3_, c4_, cond_true, cond_false]
 exact oS ((hkW laT lpE)) (m := (bitsN 28 234881048)) (p := (bitsN 18 196608)) (aC (bT c0_) (aC (bT c1_) (aC c2_ (aC c3_ (aC (bT c4_) aN)))))
def p71_0F (Y M D ho mi : Int) (S : Nat) (W J n : Int) : ByteArray := (itoaF (rwks0F (rflo0F n 86400)))
def p71_1F (Y M D ho mi : Int) (S : Nat) (W J n : Int) : Bool := true
def p71_OkF (Y M D ho mi : Int) (S : Nat) (W J n : Int) : Bool := (((rdayOkF Y 0 1)) && (((rwksOkF (rflo0F n 86400))) && (((i64F (rwks0F (rflo0F n 86400)))) && true)))
theorem p71__ev (Y M D ho mi : Int) (S : Nat) (W J n : Int) (hok : p71_OkF Y M D ho mi S W J n = true) : ∃ H' nx', evFunc (withFns cx0 laT lpE) 120 118 #[tmA Y M D ho mi S W J, .int .i64 n, .int .u8 71] H0 12 = some ((Value.tuple #[(Value.string (p71_0F Y M D ho mi S W J n)), (Value.bool (p71_1F Y M D ho mi S W J n))]), H', nx') := by
 unfold p71_OkF at hok
 obtain ⟨c0_, hok⟩ := aO hok
 obtain ⟨c1_, hok⟩ := aO hok
 obtain ⟨c2_, hok⟩ := aO hok
 unfold p71_0F p71_1F
 try simp only [c0_, c1_, c2_, cond_true, cond_false]
 exact oS ((hkW laT lpE)) (m := (bitsN 34 8589934616)) (p := (bitsN 26 33554432)) (aC (bT c0_) (aC (bT c1_) (aC (bT c2_) aN)))
def p122_0F (Y M D ho mi : Int) (S : Nat) (W J n : Int) : ByteArray := (ByteArray.mk #[43, 48, 48, 48, 48])
def p122_1F (Y M D ho mi : Int) (S : Nat) (W J n : Int) : Bool := true
def p122_OkF (Y M D ho mi : Int) (S : Nat) (W J n : Int) : Bool := (((rdayOkF Y 0 1)) && (((rwksOkF (rflo0F n 86400))) && true))
theorem p122__ev (Y M D ho mi : Int) (S : Nat) (W J n : Int) (hok : p122_OkF Y M D ho mi S W J n = true) : ∃ H' nx', evFunc (withFns cx0 laT lpE) 120 118 #[tmA Y M D ho mi S W J, .int .i64 n, .int .u8 122] H0 12 = some ((Value.tuple #[(Value.string (p122_0F Y M D ho mi S W J n)), (Value.bool (p122_1F Y M D ho mi S W J n))]), H', nx') := by
 unfold p122_OkF at hok
 obtain ⟨c0_, hok⟩ := aO hok
 obtain ⟨c1_, hok⟩ := aO hok
 unfold p122_0F p122_1F
 try simp only [c0_, c1_, cond_true, cond_false]
 exact oS ((hkW laT lpE)) (m := (bitsN 5 24)) (p := (bitsN 32 2147483648)) (aC (bT c0_) (aC (bT c1_) aN))
end Go.Proofs.YthopphfehgdocaaGreatDoor
