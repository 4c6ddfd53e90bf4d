import Derived.Test.YthopphfehgdocaaGreatDoorRefE
import Derived.Test.YthopphfehgdocaaGreatDoorRefP
set_option linter.unusedSimpArgs false
set_option linter.unusedVariables false
namespace Go.Proofs.YthopphfehgdocaaGreatDoor
open Go Go.RowKit Go.Ev Go.Proofs Go.Shelf
def halfL : List Value := [.string ⟨#[65, 77]⟩, .string ⟨#[80, 77]⟩]
def halflL : List Value := [.string ⟨#[97, 109]⟩, .string ⟨#[112, 109]⟩]
def halfF (k : Int) : ByteArray := nthS halfL (atF k)
def halflF (k : Int) : ByteArray := nthS halflL (atF k)
def rwdF (n : Int) : Int := (Int.tmod (IntKind.i64.wrap (Int.tmod (IntKind.i64.wrap (rflo0F n 86400 + 4)) 7 + 7)) 7)
def rhaF (ho : Int) : Int := (IntKind.i64.wrap (Int.tdiv ho 12))
theorem p97_p (Y M D ho mi : Int) (S : Nat) (W J n : Int) (h1 : (rdayOkF Y 0 1 == true) = true) (h2 : (rwksOkF (rflo0F n 86400) == true) = true) (h3 : (decide (0 ≤ (rwdF n)) && decide ((rwdF n).toNat < 7)) = true) (h4 : isNthS dayL (atF (rwdF n)) = true) (h5 : ((decide ((0 : Int) ≤ 3) && decide ((3 : Int) ≤ (((dayF (rwdF n)).size : Nat) : Int))) && true) = true) : ∃ H' nx', evFunc (withFns cx0 laT lpE) 120 118 #[.agg #[.int .i64 Y, .int .i64 M, .int .i64 D, .int .i64 ho, .int .i64 mi, .float .f64 S, .int .i64 W, .int .i64 J], .int .i64 n, .int .u8 97] H0 12 = some (.tuple #[.string (d3F (dayF (rwdF n))), .bool true], H', nx') :=
 oS (hkW laT lpE) (m := (bitsN 11 1816)) (p := [true]) (aC h1 (aC h2 (aC h3 (aC h4 (aC h5 aN)))))
def p97_0F (Y M D ho mi : Int) (S : Nat) (W J n : Int) : ByteArray := (d3F (dayF (rwdF n)))
def p97_OkF (Y M D ho mi : Int) (S : Nat) (W J n : Int) : Bool := rdayOkF Y 0 1 && (rwksOkF (rflo0F n 86400) && (decide (0 ≤ (rwdF n)) && decide ((rwdF n) ≤ 6)))
theorem p97_ev (Y M D ho mi : Int) (S : Nat) (W J n : Int) (hok : p97_OkF Y M D ho mi S W J n = true) : ∃ H' nx', evFunc (withFns cx0 laT lpE) 120 118 #[tmA Y M D ho mi S W J, .int .i64 n, .int .u8 97] H0 12 = some (.tuple #[.string (p97_0F Y M D ho mi S W J n), .bool true], H', nx') := by
 unfold p97_OkF at hok
 simp only [Bool.and_eq_true, decide_eq_true_eq] at hok
 obtain ⟨k1, k2, k3, k4⟩ := hok
 have key : ∀ k : Int, 0 ≤ k → k ≤ 6 → (decide (0 ≤ k) && decide (k.toNat < 7)) = true ∧ isNthS dayL (atF k) = true ∧ ((decide ((0 : Int) ≤ 3) && decide ((3 : Int) ≤ (((dayF k).size : Nat) : Int))) && true) = true := by
  intro k h0 h1
  have h : k = 0 ∨ k = 1 ∨ k = 2 ∨ k = 3 ∨ k = 4 ∨ k = 5 ∨ k = 6 := by omega
  rcases h with rfl | rfl | rfl | rfl | rfl | rfl | rfl <;> decide
 obtain ⟨q3, q4, q5⟩ := key (rwdF n) k3 k4
 exact p97_p Y M D ho mi S W J n (by rw [k1]; rfl) (by rw [k2]; rfl) q3 q4 q5
theorem p65_p (Y M D ho mi : Int) (S : Nat) (W J n : Int) (h1 : (rdayOkF Y 0 1 == true) = true) (h2 : (rwksOkF (rflo0F n 86400) == true) = true) (h3 : (decide (0 ≤ (rwdF n)) && decide ((rwdF n).toNat < 7)) = true) (h4 : isNthS dayL (atF (rwdF n)) = true) : ∃ H' nx', evFunc (withFns cx0 laT lpE) 120 118 #[.agg #[.int .i64 Y, .int .i64 M, .int .i64 D, .int .i64 ho, .int .i64 mi, .float .f64 S, .int .i64 W, .int .i64 J], .int .i64 n, .int .u8 65] H0 12 = some (.tuple #[.string (dayF (rwdF n)), .bool true], H', nx') :=
 oS (hkW laT lpE) (m := (bitsN 11 1560)) (p := [false, true]) (aC h1 (aC h2 (aC h3 (aC h4 aN))))
def p65_0F (Y M D ho mi : Int) (S : Nat) (W J n : Int) : ByteArray := (dayF (rwdF n))
def p65_OkF (Y M D ho mi : Int) (S : Nat) (W J n : Int) : Bool := rdayOkF Y 0 1 && (rwksOkF (rflo0F n 86400) && (decide (0 ≤ (rwdF n)) && decide ((rwdF n) ≤ 6)))
theorem p65_ev (Y M D ho mi : Int) (S : Nat) (W J n : Int) (hok : p65_OkF Y M D ho mi S W J n = true) : ∃ H' nx', evFunc (withFns cx0 laT lpE) 120 118 #[tmA Y M D ho mi S W J, .int .i64 n, .int .u8 65] H0 12 = some (.tuple #[.string (p65_0F Y M D ho mi S W J n), .bool true], H', nx') := by
 unfold p65_OkF at hok
 simp only [Bool.and_eq_true, decide_eq_true_eq] at hok
 obtain ⟨k1, k2, k3, k4⟩ := hok
 have key : ∀ k : Int, 0 ≤ k → k ≤ 6 → (decide (0 ≤ k) && decide (k.toNat < 7)) = true ∧ isNthS dayL (atF k) = true := by
  intro k h0 h1
  have h : k = 0 ∨ k = 1 ∨ k = 2 ∨ k = 3 ∨ k = 4 ∨ k = 5 ∨ k = 6 := by omega
  rcases h with rfl | rfl | rfl | rfl | rfl | rfl | rfl <;> decide
 obtain ⟨q3, q4⟩ := key (rwdF n) k3 k4
 exact p65_p Y M D ho mi S W J n (by rw [k1]; rfl) (by rw [k2]; rfl) q3 q4
theorem p98_p (Y M D ho mi : Int) (S : Nat) (W J n : Int) (h1 : (rdayOkF Y 0 1 == true) = true) (h2 : (rwksOkF (rflo0F n 86400) == true) = true) (h3 : (decide (0 ≤ M) && decide (M.toNat < 12)) = true) (h4 : isNthS monL (atF M) = true) (h5 : ((decide ((0 : Int) ≤ 3) && decide ((3 : Int) ≤ (((monF M).size : Nat) : Int))) && true) = true) : ∃ H' nx', evFunc (withFns cx0 laT lpE) 120 118 #[.agg #[.int .i64 Y, .int .i64 M, .int .i64 D, .int .i64 ho, .int .i64 mi, .float .f64 S, .int .i64 W, .int .i64 J], .int .i64 n, .int .u8 98] H0 12 = some (.tuple #[.string (d3F (monF M)), .bool true], H', nx') :=
 oS (hkW laT lpE) (m := (bitsN 15 28696)) (p := [false, false, true, true]) (aC h1 (aC h2 (aC h3 (aC h4 (aC h5 aN)))))
def p98_0F (Y M D ho mi : Int) (S : Nat) (W J n : Int) : ByteArray := (d3F (monF M))
def p98_OkF (Y M D ho mi : Int) (S : Nat) (W J n : Int) : Bool := rdayOkF Y 0 1 && (rwksOkF (rflo0F n 86400) && (decide (0 ≤ M) && decide (M ≤ 11)))
theorem p98_ev (Y M D ho mi : Int) (S : Nat) (W J n : Int) (hok : p98_OkF Y M D ho mi S W J n = true) : ∃ H' nx', evFunc (withFns cx0 laT lpE) 120 118 #[tmA Y M D ho mi S W J, .int .i64 n, .int .u8 98] H0 12 = some (.tuple #[.string (p98_0F Y M D ho mi S W J n), .bool true], H', nx') := by
 unfold p98_OkF at hok
 simp only [Bool.and_eq_true, decide_eq_true_eq] at hok
 obtain ⟨k1, k2, k3, k4⟩ := hok
 have key : ∀ k : Int, 0 ≤ k → k ≤ 11 → (decide (0 ≤ k) && decide (k.toNat < 12)) = true ∧ isNthS monL (atF k) = true ∧ ((decide ((0 : Int) ≤ 3) && decide ((3 : Int) ≤ (((monF k).size : Nat) : Int))) && true) = true := by
  intro k h0 h1
  have h : k = 0 ∨ k = 1 ∨ k = 2 ∨ k = 3 ∨ k = 4 ∨ k = 5 ∨ k = 6 ∨ k = 7 ∨ k = 8 ∨ k = 9 ∨ k = 10 ∨ k = 11 := by omega
  rcases h with rfl | rfl | rfl | rfl | rfl | rfl | rfl | rfl | rfl | rfl | rfl | rfl <;> decide
 obtain ⟨q3, q4, q5⟩ := key M k3 k4
 exact p98_p Y M D ho mi S W J n (by rw [k1]; rfl) (by rw [k2]; rfl) q3 q4 q5
theorem p104_p (Y M D ho mi : Int) (S : Nat) (W J n : Int) (h1 : (rdayOkF Y 0 1 == true) = true) (h2 : (rwksOkF (rflo0F n 86400) == true) = true) (h3 : (decide (0 ≤ M) && decide (M.toNat < 12)) = true) (h4 : isNthS monL (atF M) = true) (h5 : ((decide ((0 : Int) ≤ 3) && decide ((3 : Int) ≤ (((monF M).size : Nat) : Int))) && true) = true) : ∃ H' nx', evFunc (withFns cx0 laT lpE) 120 118 #[.agg #[.int .i64 Y, .int .i64 M, .int .i64 D, .int .i64 ho, .int .i64 mi, .float .f64 S, .int .i64 W, .int .i64 J], .int .i64 n, .int .u8 104] H0 12 = some (.tuple #[.string (d3F (monF M)), .bool true], H', nx') :=
 oS (hkW laT lpE) (m := (bitsN 15 28696)) (p := [false, false, false, true]) (aC h1 (aC h2 (aC h3 (aC h4 (aC h5 aN)))))
def p104_0F (Y M D ho mi : Int) (S : Nat) (W J n : Int) : ByteArray := (d3F (monF M))
def p104_OkF (Y M D ho mi : Int) (S : Nat) (W J n : Int) : Bool := rdayOkF Y 0 1 && (rwksOkF (rflo0F n 86400) && (decide (0 ≤ M) && decide (M ≤ 11)))
theorem p104_ev (Y M D ho mi : Int) (S : Nat) (W J n : Int) (hok : p104_OkF Y M D ho mi S W J n = true) : ∃ H' nx', evFunc (withFns cx0 laT lpE) 120 118 #[tmA Y M D ho mi S W J, .int .i64 n, .int .u8 104] H0 12 = some (.tuple #[.string (p104_0F Y M D ho mi S W J n), .bool true], H', nx') := by
 unfold p104_OkF at hok
 simp only [Bool.and_eq_true, decide_eq_true_eq] at hok
 obtain ⟨k1, k2, k3, k4⟩ := hok
 have key : ∀ k : Int, 0 ≤ k → k ≤ 11 → (decide (0 ≤ k) && decide (k.toNat < 12)) = true ∧ isNthS monL (atF k) = true ∧ ((decide ((0 : Int) ≤ 3) && decide ((3 : Int) ≤ (((monF k).size : Nat) : Int))) && true) = true := by
  intro k h0 h1
  have h : k = 0 ∨ k = 1 ∨ k = 2 ∨ k = 3 ∨ k = 4 ∨ k = 5 ∨ k = 6 ∨ k = 7 ∨ k = 8 ∨ k = 9 ∨ k = 10 ∨ k = 11 := by omega
  rcases h with rfl | rfl | rfl | rfl | rfl | rfl | rfl | rfl | rfl | rfl | rfl | rfl <;> decide
 obtain ⟨q3, q4, q5⟩ := key M k3 k4
 exact p104_p Y M D ho mi S W J n (by rw [k1]; rfl) (by rw [k2]; rfl) q3 q4 q5
theorem p66_p (Y M D ho mi : Int) (S : Nat) (W J n : Int) (h1 : (rdayOkF Y 0 1 == true) = true) (h2 : (rwksOkF (rflo0F n 86400) == true) = true) (h3 : (decide (0 ≤ M) && decide (M.toNat < 12)) = true) (h4 : isNthS monL (atF M) = true) : ∃ H' nx', evFunc (withFns cx0 laT lpE) 120 118 #[.agg #[.int .i64 Y, .int .i64 M, .int .i64 D, .int .i64 ho, .int .i64 mi, .float .f64 S, .int .i64 W, .int .i64 J], .int .i64 n, .int .u8 66] H0 12 = some (.tuple #[.string (monF M), .bool true], H', nx') :=
 oS (hkW laT lpE) (m := (bitsN 15 24600)) (p := (bitsN 5 16)) (aC h1 (aC h2 (aC h3 (aC h4 aN))))
def p66_0F (Y M D ho mi : Int) (S : Nat) (W J n : Int) : ByteArray := (monF M)
def p66_OkF (Y M D ho mi : Int) (S : Nat) (W J n : Int) : Bool := rdayOkF Y 0 1 && (rwksOkF (rflo0F n 86400) && (decide (0 ≤ M) && decide (M ≤ 11)))
theorem p66_ev (Y M D ho mi : Int) (S : Nat) (W J n : Int) (hok : p66_OkF Y M D ho mi S W J n = true) : ∃ H' nx', evFunc (withFns cx0 laT lpE) 120 118 #[tmA Y M D ho mi S W J, .int .i64 n, .int .u8 66] H0 12 = some (.tuple #[.string (p66_0F Y M D ho mi S W J n), .bool true], H', nx') := by
 unfold p66_OkF at hok
 simp only [Bool.and_eq_true, decide_eq_true_eq] at hok
 obtain ⟨k1, k2, k3, k4⟩ := hok
 have key : ∀ k : Int, 0 ≤ k → k ≤ 11 → (decide (0 ≤ k) && decide (k.toNat < 12)) = true ∧ isNthS monL (atF k) = true := by
  intro k h0 h1
  have h : k = 0 ∨ k = 1 ∨ k = 2 ∨ k = 3 ∨ k = 4 ∨ k = 5 ∨ k = 6 ∨ k = 7 ∨ k = 8 ∨ k = 9 ∨ k = 10 ∨ k = 11 := by omega
  rcases h with rfl | rfl | rfl | rfl | rfl | rfl | rfl | rfl | rfl | rfl | rfl | rfl <;> decide
 obtain ⟨q3, q4⟩ := key M k3 k4
 exact p66_p Y M D ho mi S W J n (by rw [k1]; rfl) (by rw [k2]; rfl) q3 q4
theorem p112_p (Y M D ho mi : Int) (S : Nat) (W J n : Int) (h1 : (rdayOkF Y 0 1 == true) = true) (h2 : (rwksOkF (rflo0F n 86400) == true) = true) (h3 : (decide (0 ≤ (rhaF ho)) && decide ((rhaF ho).toNat < 2)) = true) (h4 : isNthS halfL (atF (rhaF ho)) = true) : ∃ H' nx', evFunc (withFns cx0 laT lpE) 120 118 #[.agg #[.int .i64 Y, .int .i64 M, .int .i64 D, .int .i64 ho, .int .i64 mi, .float .f64 S, .int .i64 W, .int .i64 J], .int .i64 n, .int .u8 112] H0 12 = some (.tuple #[.string (halfF (rhaF ho)), .bool true], H', nx') :=
 oS (hkW laT lpE) (m := (bitsN 28 201326616)) (p := (bitsN 19 262144)) (aC h1 (aC h2 (aC h3 (aC h4 aN))))
def p112_0F (Y M D ho mi : Int) (S : Nat) (W J n : Int) : ByteArray := (halfF (rhaF ho))
def p112_OkF (Y M D ho mi : Int) (S : Nat) (W J n : Int) : Bool := rdayOkF Y 0 1 && (rwksOkF (rflo0F n 86400) && (decide (0 ≤ (rhaF ho)) && decide ((rhaF ho) ≤ 1)))
theorem p112_ev (Y M D ho mi : Int) (S : Nat) (W J n : Int) (hok : p112_OkF Y M D ho mi S W J n = true) : ∃ H' nx', evFunc (withFns cx0 laT lpE) 120 118 #[tmA Y M D ho mi S W J, .int .i64 n, .int .u8 112] H0 12 = some (.tuple #[.string (p112_0F Y M D ho mi S W J n), .bool true], H', nx') := by
 unfold p112_OkF at hok
 simp only [Bool.and_eq_true, decide_eq_true_eq] at hok
 obtain ⟨k1, k2, k3, k4⟩ := hok
 have key : ∀ k : Int, 0 ≤ k → k ≤ 1 → (decide (0 ≤ k) && decide (k.toNat < 2)) = true ∧ isNthS halfL (atF k) = true := by
  intro k h0 h1
  have h : k = 0 ∨ k = 1 := by omega
  rcases h with rfl | rfl <;> decide
 obtain ⟨q3, q4⟩ := key (rhaF ho) k3 k4
 exact p112_p Y M D ho mi S W J n (by rw [k1]; rfl) (by rw [k2]; rfl) q3 q4
theorem p80_p (Y M D ho mi : Int) (S : Nat) (W J n : Int) (h1 : (rdayOkF Y 0 1 == true) = true) (h2 : (rwksOkF (rflo0F n 86400) == true) = true) (h3 : (decide (0 ≤ (rhaF ho)) && decide ((rhaF ho).toNat < 2)) = true) (h4 : isNthS halflL (atF (rhaF ho)) = true) : ∃ H' nx', evFunc (withFns cx0 laT lpE) 120 118 #[.agg #[.int .i64 Y, .int .i64 M, .int .i64 D, .int .i64 ho, .int .i64 mi, .float .f64 S, .int .i64 W, .int .i64 J], .int .i64 n, .int .u8 80] H0 12 = some (.tuple #[.string (halflF (rhaF ho)), .bool true], H', nx') :=
 oS (hkW laT lpE) (m := (bitsN 29 402653208)) (p := (bitsN 20 524288)) (aC h1 (aC h2 (aC h3 (aC h4 aN))))
def p80_0F (Y M D ho mi : Int) (S : Nat) (W J n : Int) : ByteArray := (halflF (rhaF ho))
def p80_OkF (Y M D ho mi : Int) (S : Nat) (W J n : Int) : Bool := rdayOkF Y 0 1 && (rwksOkF (rflo0F n 86400) && (decide (0 ≤ (rhaF ho)) && decide ((rhaF ho) ≤ 1)))
theorem p80_ev (Y M D ho mi : Int) (S : Nat) (W J n : Int) (hok : p80_OkF Y M D ho mi S W J n = true) : ∃ H' nx', evFunc (withFns cx0 laT lpE) 120 118 #[tmA Y M D ho mi S W J, .int .i64 n, .int .u8 80] H0 12 = some (.tuple #[.string (p80_0F Y M D ho mi S W J n), .bool true], H', nx') := by
 unfold p80_OkF at hok
 simp only [Bool.and_eq_true, decide_eq_true_eq] at hok
 obtain ⟨k1, k2, k3, k4⟩ := hok
 have key : ∀ k : Int, 0 ≤ k → k ≤ 1 → (decide (0 ≤ k) && decide (k.toNat < 2)) = true ∧ isNthS halflL (atF k) = true := by
  intro k h0 h1
  have h : k = 0 ∨ k = 1 := by omega
  rcases h with rfl | rfl <;> decide
 obtain ⟨q3, q4⟩ := key (rhaF ho) k3 k4
 exact p80_p Y M D ho mi S W J n (by rw [k1]; rfl) (by rw [k2]; rfl) q3 q4
def pieceSF (Y M D ho mi : Int) (S : Nat) (W J n : Int) (c : Int) : ByteArray := if c = 97 then p97_0F Y M D ho mi S W J n else if c = 65 then p65_0F Y M D ho mi S W J n else if c = 98 then p98_0F Y M D ho mi S W J n else if c = 104 then p104_0F Y M D ho mi S W J n else if c = 66 then p66_0F Y M D ho mi S W J n else if c = 89 then p89_0F Y M D ho mi S W J n else if c = 67 then p67_0F Y M D ho mi S W J n else if c = 121 then p121_0F Y M D ho mi S W J n else if c = 109 then p109_0F Y M D ho mi S W J n else if c = 100 then p100_0F Y M D ho mi S W J n else if c = 101 then p101_0F Y M D ho mi S W J n else if c = 72 then p72_0F Y M D ho mi S W J n else if c = 107 then p107_0F Y M D ho mi S W J n else if c = 73 then p73_0F Y M D ho mi S W J n else if c = 108 then p108_0F Y M D ho mi S W J n else if c = 77 then p77_0F Y M D ho mi S W J n else if c = 83 then p83_0F Y M D ho mi S W J n else if c = 106 then p106_0F Y M D ho mi S W J n else if c = 112 then p112_0F Y M D ho mi S W J n else if c = 80 then p80_0F Y M D ho mi S W J n else if c = 117 then p117_0F Y M D ho mi S W J n else if c = 119 then p119_0F Y M D ho mi S W J n else if c = 85 then p85_0F Y M D ho mi S W J n else if c = 87 then p87_0F Y M D ho mi S W J n else if c = 86 then p86_0F Y M D ho mi S W J n else if c = 71 then p71_0F Y M D ho mi S W J n else if c = 103 then p103_0F Y M D ho mi S W J n else if c = 115 then p115_0F Y M D ho mi S W J n else if c = 110 then p110_0F Y M D ho mi S W J n else if c = 116 then p116_0F Y M D ho mi S W J n else if c = 37 then p37_0F Y M D ho mi S W J n else if c = 122 then p122_0F Y M D ho mi S W J n else if c = 90 then p90_0F Y M D ho mi S W J n else ByteArray.mk #[]
def pieceBF (c : Int) : Bool := if c = 97 then true else if c = 65 then true else if c = 98 then true else if c = 104 then true else if c = 66 then true else if c = 89 then true else if c = 67 then true else if c = 121 then true else if c = 109 then true else if c = 100 then true else if c = 101 then true else if c = 72 then true else if c = 107 then true else if c = 73 then true else if c = 108 then true else if c = 77 then true else if c = 83 then true else if c = 106 then true else if c = 112 then true else if c = 80 then true else if c = 117 then true else if c = 119 then true else if c = 85 then true else if c = 87 then true else if c = 86 then true else if c = 71 then true else if c = 103 then true else if c = 115 then true else if c = 110 then true else if c = 116 then true else if c = 37 then true else if c = 122 then true else if c = 90 then true else false
def pieceOkF (Y M D ho mi : Int) (S : Nat) (W J n : Int) (c : Int) : Bool := if c = 97 then p97_OkF Y M D ho mi S W J n else if c = 65 then p65_OkF Y M D ho mi S W J n else if c = 98 then p98_OkF Y M D ho mi S W J n else if c = 104 then p104_OkF Y M D ho mi S W J n else if c = 66 then p66_OkF Y M D ho mi S W J n else if c = 89 then p89_OkF Y M D ho mi S W J n else if c = 67 then p67_OkF Y M D ho mi S W J n else if c = 121 then p121_OkF Y M D ho mi S W J n else if c = 109 then p109_OkF Y M D ho mi S W J n else if c = 100 then p100_OkF Y M D ho mi S W J n else if c = 101 then p101_OkF Y M D ho mi S W J n else if c = 72 then p72_OkF Y M D ho mi S W J n else if c = 107 then p107_OkF Y M D ho mi S W J n else if c = 73 then p73_OkF Y M D ho mi S W J n else if c = 108 then p108_OkF Y M D ho mi S W J n else if c = 77 then p77_OkF Y M D ho mi S W J n else if c = 83 then p83_OkF Y M D ho mi S W J n else if c = 106 then p106_OkF Y M D ho mi S W J n else if c = 112 then p112_OkF Y M D ho mi S W J n else if c = 80 then p80_OkF Y M D ho mi S W J n else if c = 117 then p117_OkF Y M D ho mi S W J n else if c = 119 then p119_OkF Y M D ho mi S W J n else if c = 85 then p85_OkF Y M D ho mi S W J n else if c = 87 then p87_OkF Y M D ho mi S W J n else if c = 86 then p86_OkF Y M D ho mi S W J n else if c = 71 then p71_OkF Y M D ho mi S W J n else if c = 103 then p103_OkF Y M D ho mi S W J n else if c = 115 then p115_OkF Y M D ho mi S W J n else if c = 110 then p110_OkF Y M D ho mi S W J n else if c = 116 then p116_OkF Y M D ho mi S W J n else if c = 37 then p37_OkF Y M D ho mi S W J n else if c = 122 then p122_OkF Y M D ho mi S W J n else if c = 90 then p90_OkF Y M D ho mi S W J n else (rdayOkF Y 0 1 && rwksOkF (rflo0F n 86400))
set_option maxRecDepth 10000 in
theorem piece_ev (Y M D ho mi : Int) (S : Nat) (W J n : Int) (c : Int) (hok : pieceOkF Y M D ho mi S W J n c = true) : ∃ H' nx', evFunc (withFns cx0 laT lpE) 120 118 #[.agg #[.int .i64 Y, .int .i64 M, .int .i64 D, .int .i64 ho, .int .i64 mi, .float .f64 S, .int .i64 W, .int .i64 J], .int .i64 n, .int .u8 c] H0 12 = some (.tuple #[.string (pieceSF Y M D ho mi S W J n c), .bool (pieceBF c)], H', nx') := by
 by_cases h0 : c = 97
 ·subst h0
  exact p97_ev Y M D ho mi S W J n hok
 by_cases h1 : c = 65
 ·subst h1
  exact p65_ev Y M D ho mi S W J n hok
 by_cases h2 : c = 98
 ·subst h2
  exact p98_ev Y M D ho mi S W J n hok
 by_cases h3 : c = 104
 ·subst h3
  exact p104_ev Y M D ho mi S W J n hok
 by_cases h4 : c = 66
 ·subst h4
  exact p66_ev Y M D ho mi S W J n hok
 by_cases h5 : c = 89
 ·subst h5
  exact p89__ev Y M D ho mi S W J n hok
 by_cases h6 : c = 67
 ·subst h6
  exact p67__ev Y M D ho mi S W J n hok
 by_cases h7 : c = 121
 ·subst h7
  exact p121__ev Y M D ho mi S W J n hok
 by_cases h8 : c = 109
 ·subst h8
  exact p109__ev Y M D ho mi S W J n hok
 by_cases h9 : c = 100
 ·subst h9
  exact p100__ev Y M D ho mi S W J n hok
 by_cases h10 : c = 101
 ·subst h10
  exact p101__ev Y M D ho mi S W J n hok
 by_cases h11 : c = 72
 ·subst h11
  exact p72__ev Y M D ho mi S W J n hok
 by_cases h12 : c = 107
 ·subst h12
  exact p107__ev Y M D ho mi S W J n hok
 by_cases h13 : c = 73
 ·subst h13
  exact p73__ev Y M D ho mi S W J n hok
 by_cases h14 : c = 108
 ·subst h14
  exact p108__ev Y M D ho mi S W J n hok
 by_cases h15 : c = 77
 ·subst h15
  exact p77__ev Y M D ho mi S W J n hok
 by_cases h16 : c = 83
 ·subst h16
  exact p83__ev Y M D ho mi S W J n hok
 by_cases h17 : c = 106
 ·subst h17
  exact p106__ev Y M D ho mi S W J n hok
 by_cases h18 : c = 112
 ·subst h18
  exact p112_ev Y M D ho mi S W J n hok
 by_cases h19 : c = 80
 ·subst h19
  exact p80_ev Y M D ho mi S W J n hok
 by_cases h20 : c = 117
 ·subst h20
  exact p117__ev Y M D ho mi S W J n hok
 by_cases h21 : c = 119
 ·subst h21
  exact p119__ev Y M D ho mi S W J n hok
 by_cases h22 : c = 85
 ·subst h22
  exact p85__ev Y M D ho mi S W J n hok
 by_cases h23 : c = 87
 ·subst h23
  exact p87__ev Y M D ho mi S W J n hok
 by_cases h24 : c = 86
 ·subst h24
  exact p86__ev Y M D ho mi S W J n hok
 by_cases h25 : c = 71
 ·subst h25
  exact p71__ev Y M D ho mi S W J n hok
 by_cases h26 : c = 103
 ·subst h26
  exact p103__ev Y M D ho mi S W J n hok
 by_cases h27 : c = 115
 ·subst h27
  exact p115__ev Y M D ho mi S W J n hok
 by_cases h28 : c = 110
 ·subst h28
  exact p110__ev Y M D ho mi S W J n hok
 by_cases h29 : c = 116
 ·subst h29
  exact p116__ev Y M D ho mi S W J n hok
 by_cases h30 : c = 37
 ·subst h30
  exact p37__ev Y M D ho mi S W J n hok
 by_cases h31 : c = 122
 ·subst h31
  exact p122__ev Y M D ho mi S W J n hok
 by_cases h32 : c = 90
 ·subst h32
  exact p90__ev Y M D ho mi S W J n hok
 unfold pieceOkF at hok
 unfold pieceSF pieceBF
 simp only [h0, h1, h2, h3, h4, h5, h6, h7, h8, h9, h10, h11, h12, h13, h14, h15, h16, h17, h18, h19, h20, h21, h22, h23, h24, h25, h26, h27, h28, h29, h30, h31, h32, if_false, Bool.and_eq_true] at hok ⊢
 refine pq__ev Y M D ho mi S W J n c ?_
 unfold pq_OkF
 have b : ∀ k : Int, c ≠ k → (c == k) = false := fun k h => by simp [h]
 simp only [hok.1, hok.2, b _ h0, b _ h1, b _ h2, b _ h3, b _ h4, b _ h5, b _ h6, b _ h7, b _ h8, b _ h9, b _ h10, b _ h11, b _ h12, b _ h13, b _ h14, b _ h15, b _ h16, b _ h17, b _ h18, b _ h19, b _ h20, b _ h21, b _ h22, b _ h23, b _ h24, b _ h25, b _ h26, b _ h27, b _ h28, b _ h29, b _ h30, b _ h31, b _ h32, Bool.not_false, Bool.and_self, Bool.true_and]
def pieceV (args : Array Value) : Option Value := match args.toList with
 | [.agg a0_, .int .i64 n, .int .u8 c] => match a0_.toList with | [.int .i64 Y, .int .i64 M, .int .i64 D, .int .i64 ho, .int .i64 mi, .float .f64 S, .int .i64 W, .int .i64 J] => some (.tuple #[.string (pieceSF Y M D ho mi S W J n c), .bool (pieceBF c)]) | _ => none
 | _ => none
def pieceK (args : Array Value) : Bool := match args.toList with
 | [.agg a0_, .int .i64 n, .int .u8 c] => match a0_.toList with | [.int .i64 Y, .int .i64 M, .int .i64 D, .int .i64 ho, .int .i64 mi, .float .f64 S, .int .i64 W, .int .i64 J] => (pieceOkF Y M D ho mi S W J n c == true) | _ => false
 | _ => false
def pieceA : AFn := { f := 118, val := pieceV, ok := pieceK }
theorem piece_sound : PSound cx0 pieceA.pfn := psound_startW laT_sound lpE_sound fun args v h => by
 obtain ⟨hv, hk⟩ := afn_some h
 replace hv : pieceV args = some v := hv
 replace hk : pieceK args = true := hk
 unfold pieceV at hv
 split at hv
 ·rename_i a0_ n c hx
  have ha := args_list hx
  subst ha
  split at hv
  ·rename_i Y M D ho mi S W J hx0
   have ha0 := args_list hx0
   subst ha0
   cases hv
   have hok : pieceOkF Y M D ho mi S W J n c = true := by simpa [pieceK] using hk
   exact ⟨rfl, rfl, 120, piece_ev Y M D ho mi S W J n c hok⟩
  ·cases hv
 ·cases hv
def longerF (c : Int) : ByteArray := if c = 68 then (ByteArray.mk #[37, 109, 47, 37, 100, 47, 37, 121]) else if c = 120 then (ByteArray.mk #[37, 109, 47, 37, 100, 47, 37, 121]) else if c = 70 then (ByteArray.mk #[37, 89, 45, 37, 109, 45, 37, 100]) else if c = 82 then (ByteArray.mk #[37, 72, 58, 37, 77]) else if c = 84 then (ByteArray.mk #[37, 72, 58, 37, 77, 58, 37, 83]) else if c = 88 then (ByteArray.mk #[37, 72, 58, 37, 77, 58, 37, 83]) else if c = 114 then (ByteArray.mk #[37, 73, 58, 37, 77, 58, 37, 83, 32, 37, 112]) else if c = 99 then (ByteArray.mk #[37, 97, 32, 37, 98, 32, 37, 101, 32, 37, 72, 58, 37, 77, 58, 37, 83, 32, 37, 89]) else (ByteArray.mk #[])
theorem rlon_68 : ∃ H' nx', evFunc (withFns cx0 laT lpE) 120 119 #[.int .u8 68] H0 12 = some (.string (ByteArray.mk #[37, 109, 47, 37, 100, 47, 37, 121]), H', nx') :=
 oS (hkW laT lpE) (m := []) (p := [true, true]) aN
theorem rlon_120 : ∃ H' nx', evFunc (withFns cx0 laT lpE) 120 119 #[.int .u8 120] H0 12 = some (.string (ByteArray.mk #[37, 109, 47, 37, 100, 47, 37, 121]), H', nx') :=
 oS (hkW laT lpE) (m := []) (p := [false, true]) aN
theorem rlon_70 : ∃ H' nx', evFunc (withFns cx0 laT lpE) 120 119 #[.int .u8 70] H0 12 = some (.string (ByteArray.mk #[37, 89, 45, 37, 109, 45, 37, 100]), H', nx') :=
 oS (hkW laT lpE) (m := []) (p := [false, false, true]) aN
theorem rlon_82 : ∃ H' nx', evFunc (withFns cx0 laT lpE) 120 119 #[.int .u8 82] H0 12 = some (.string (ByteArray.mk #[37, 72, 58, 37, 77]), H', nx') :=
 oS (hkW laT lpE) (m := []) (p := [false, false, false, true]) aN
theorem rlon_84 : ∃ H' nx', evFunc (withFns cx0 laT lpE) 120 119 #[.int .u8 84] H0 12 = some (.string (ByteArray.mk #[37, 72, 58, 37, 77, 58, 37, 83]), H', nx') :=
 oS (hkW laT lpE) (m := []) (p := (bitsN 6 48)) aN
theorem rlon_88 : ∃ H' nx', evFunc (withFns cx0 laT lpE) 120 119 #[.int .u8 88] H0 12 = some (.string (ByteArray.mk #[37, 72, 58, 37, 77, 58, 37, 83]), H', nx') :=
 oS (hkW laT lpE) (m := []) (p := (bitsN 6 32)) aN
theorem rlon_114 : ∃ H' nx', evFunc (withFns cx0 laT lpE) 120 119 #[.int .u8 114] H0 12 = some (.string (ByteArray.mk #[37, 73, 58, 37, 77, 58, 37, 83, 32, 37, 112]), H', nx') :=
 oS (hkW laT lpE) (m := []) (p := (bitsN 7 64)) aN
theorem rlon_99 : ∃ H' nx', evFunc (withFns cx0 laT lpE) 120 119 #[.int .u8 99] H0 12 = some (.string (ByteArray.mk #[37, 97, 32, 37, 98, 32, 37, 101, 32, 37, 72, 58, 37, 77, 58, 37, 83, 32, 37, 89]), H', nx') :=
 oS (hkW laT lpE) (m := []) (p := (bitsN 8 128)) aN
theorem rlon_no (c : Int) (h0 : ((c == 68) == false) = true) (h1 : ((c == 120) == false) = true) (h2 : ((c == 70) == false) = true) (h3 : ((c == 82) == false) = true) (h4 : ((c == 84) == false) = true) (h5 : ((c == 88) == false) = true) (h6 : ((c == 114) == false) = true) (h7 : ((c == 99) == false) = true) : ∃ H' nx', evFunc (withFns cx0 laT lpE) 120 119 #[.int .u8 c] H0 12 = some (.string (ByteArray.mk #[]), H', nx') :=
 oS (hkW laT lpE) (m := (bitsN 8 255)) (p := (bitsN 8 0)) (aC h0 (aC h1 (aC h2 (aC h3 (aC h4 (aC h5 (aC h6 (aC h7 aN))))))))
theorem rlon_ev (c : Int) : ∃ H' nx', evFunc (withFns cx0 laT lpE) 120 119 #[.int .u8 c] H0 12 = some (.string (longerF c), H', nx') := by
 by_cases h0 : c = 68
 ·subst h0; exact rlon_68
 by_cases h1 : c = 120
 ·subst h1; exact rlon_120
 by_cases h2 : c = 70
 ·subst h2; exact rlon_70
 by_cases h3 : c = 82
 ·subst h3; exact rlon_82
 by_cases h4 : c = 84
 ·subst h4; exact rlon_84
 by_cases h5 : c = 88
 ·subst h5; exact rlon_88
 by_cases h6 : c = 114
 ·subst h6; exact rlon_114
 by_cases h7 : c = 99
 ·subst h7; exact rlon_99
 unfold longerF
 simp only [h0, h1, h2, h3, h4, h5, h6, h7, if_false]
 exact rlon_no c (by simp [h0]) (by simp [h1]) (by simp [h2]) (by simp [h3]) (by simp [h4]) (by simp [h5]) (by simp [h6]) (by simp [h7])
def rlonV (args : Array Value) : Option Value := match args.toList with
 | [.int .u8 c] => some (.string (longerF c))
 | _ => none
def rlonE : PFn := { f := 119, c := 0, p := rlonV }
theorem rlon_sound : PSound cx0 rlonE := psound_startW laT_sound lpE_sound fun args v h => by
 replace h : rlonV args = some v := h
 unfold rlonV at h
 split at h
 ·rename_i c hx
  have ha := args_list hx
  subst ha
  cases h
  exact ⟨rfl, rfl, 120, rlon_ev c⟩
 ·cases h
theorem clon_68 : ∃ H' nx', evFunc (withFns cx0 laT lpE) 120 81 #[.int .u8 68] H0 12 = some (.string (ByteArray.mk #[37, 109, 47, 37, 100, 47, 37, 121]), H', nx') :=
 oS (hkW laT lpE) (m := []) (p := [true, true]) aN
theorem clon_120 : ∃ H' nx', evFunc (withFns cx0 laT lpE) 120 81 #[.int .u8 120] H0 12 = some (.string (ByteArray.mk #[37, 109, 47, 37, 100, 47, 37, 121]), H', nx') :=
 oS (hkW laT lpE) (m := []) (p := [false, true]) aN
theorem clon_70 : ∃ H' nx', evFunc (withFns cx0 laT lpE) 120 81 #[.int .u8 70] H0 12 = some (.string (ByteArray.mk #[37, 89, 45, 37, 109, 45, 37, 100]), H', nx') :=
 oS (hkW laT lpE) (m := []) (p := [false, false, true]) aN
theorem clon_82 : ∃ H' nx', evFunc (withFns cx0 laT lpE) 120 81 #[.int .u8 82] H0 12 = some (.string (ByteArray.mk #[37, 72, 58, 37, 77]), H', nx') :=
 oS (hkW laT lpE) (m := []) (p := [false, false, false, true]) aN
theorem clon_84 : ∃ H' nx', evFunc (withFns cx0 laT lpE) 120 81 #[.int .u8 84] H0 12 = some (.string (ByteArray.mk #[37, 72, 58, 37, 77, 58, 37, 83]), H', nx') :=
 oS (hkW laT lpE) (m := []) (p := (bitsN 6 48)) aN
theorem clon_88 : ∃ H' nx', evFunc (withFns cx0 laT lpE) 120 81 #[.int .u8 88] H0 12 = some (.string (ByteArray.mk #[37, 72, 58, 37, 77, 58, 37, 83]), H', nx') :=
 oS (hkW laT lpE) (m := []) (p := (bitsN 6 32)) aN
theorem clon_114 : ∃ H' nx', evFunc (withFns cx0 laT lpE) 120 81 #[.int .u8 114] H0 12 = some (.string (ByteArray.mk #[37, 73, 58, 37, 77, 58, 37, 83, 32, 37, 112]), H', nx') :=
 oS (hkW laT lpE) (m := []) (p := (bitsN 7 64)) aN
theorem clon_99 : ∃ H' nx', evFunc (withFns cx0 laT lpE) 120 81 #[.int .u8 99] H0 12 = some (.string (ByteArray.mk #[37, 97, 32, 37, 98, 32, 37, 101, 32, 37, 72, 58, 37, 77, 58, 37, 83, 32, 37, 89]), H', nx') :=
 oS (hkW laT lpE) (m := []) (p := (bitsN 8 128)) aN
theorem clon_no (c : Int) (h0 : ((c == 68) == false) = true) (h1 : ((c == 120) == false) = true) (h2 : ((c == 70) == false) = true) (h3 : ((c == 82) == false) = true) (h4 : ((c == 84) == false) = true) (h5 : ((c == 88) == false) = true) (h6 : ((c == 114) == false) = true) (h7 : ((c == 99) == false) = true) : ∃ H' nx', evFunc (withFns cx0 laT lpE) 120 81 #[.int .u8 c] H0 12 = some (.string (ByteArray.mk #[]), H', nx') :=
 oS (hkW laT lpE) (m := (bitsN 8 255)) (p := (bitsN 8 0)) (aC h0 (aC h1 (aC h2 (aC h3 (aC h4 (aC h5 (aC h6 (aC h7 aN))))))))
theorem clon_ev (c : Int) : ∃ H' nx', evFunc (withFns cx0 laT lpE) 120 81 #[.int .u8 c] H0 12 = some (.string (longerF c), H', nx') := by
 by_cases h0 : c = 68
 ·subst h0; exact clon_68
 by_cases h1 : c = 120
 ·subst h1; exact clon_120
 by_cases h2 : c = 70
 ·subst h2; exact clon_70
 by_cases h3 : c = 82
 ·subst h3; exact clon_82
 by_cases h4 : c = 84
 ·subst h4; exact clon_84
 by_cases h5 : c = 88
 ·subst h5; exact clon_88
 by_cases h6 : c = 114
 ·subst h6; exact clon_114
 by_cases h7 : c = 99
 ·subst h7; exact clon_99
 unfold longerF
 simp only [h0, h1, h2, h3, h4, h5, h6, h7, if_false]
 exact clon_no c (by simp [h0]) (by simp [h1]) (by simp [h2]) (by simp [h3]) (by simp [h4]) (by simp [h5]) (by simp [h6]) (by simp [h7])
def clonV (args : Array Value) : Option Value := match args.toList with
 | [.int .u8 c] => some (.string (longerF c))
 | _ => none
def clonE : PFn := { f := 81, c := 0, p := clonV }
theorem clon_sound : PSound cx0 clonE := psound_startW laT_sound lpE_sound fun args v h => by
 replace h : clonV args = some v := h
 unfold clonV at h
 split at h
 ·rename_i c hx
  have ha := args_list hx
  subst ha
  cases h
  exact ⟨rfl, rfl, 120, clon_ev c⟩
 ·cases h
def laV : List AFn := pieceA :: laT
theorem laV_sound : ∀ e ∈ laV, PSound cx0 e.pfn := asound_cons piece_sound laT_sound
def lpV : List PFn := rlonE :: clonE :: lpE
theorem lpV_sound : ∀ e ∈ lpV, PSound cx0 e := psound_cons rlon_sound (psound_cons clon_sound lpE_sound)
end Go.Proofs.YthopphfehgdocaaGreatDoor
