import Derived.Test.YthopphfehgdocaaGreatDoorRef6
set_option linter.unusedSimpArgs false
set_option linter.unusedVariables false
namespace Go.Proofs.YthopphfehgdocaaGreatDoor
open Go Go.RowKit Go.Ev Go.Proofs Go.Shelf
def dayL : List Value := [.string ⟨#[83, 117, 110, 100, 97, 121]⟩, .string ⟨#[77, 111, 110, 100, 97, 121]⟩, .string ⟨#[84, 117, 101, 115, 100, 97, 121]⟩, .string ⟨#[87, 101, 100, 110, 101, 115, 100, 97, 121]⟩, .string ⟨#[84, 104, 117, 114, 115, 100, 97, 121]⟩, .string ⟨#[70, 114, 105, 100, 97, 121]⟩, .string ⟨#[83, 97, 116, 117, 114, 100, 97, 121]⟩]
def monL : List Value := [.string ⟨#[74, 97, 110, 117, 97, 114, 121]⟩, .string ⟨#[70, 101, 98, 114, 117, 97, 114, 121]⟩, .string ⟨#[77, 97, 114, 99, 104]⟩, .string ⟨#[65, 112, 114, 105, 108]⟩, .string ⟨#[77, 97, 121]⟩, .string ⟨#[74, 117, 110, 101]⟩, .string ⟨#[74, 117, 108, 121]⟩, .string ⟨#[65, 117, 103, 117, 115, 116]⟩, .string ⟨#[83, 101, 112, 116, 101, 109, 98, 101, 114]⟩, .string ⟨#[79, 99, 116, 111, 98, 101, 114]⟩, .string ⟨#[78, 111, 118, 101, 109, 98, 101, 114]⟩, .string ⟨#[68, 101, 99, 101, 109, 98, 101, 114]⟩]
def atF (n : Int) : Nat := Nat.add 0 (Nat.mul n.toNat 1)
def dayF (W : Int) : ByteArray := nthS dayL (atF W)
def monF (M : Int) : ByteArray := nthS monL (atF M)
def d3F (s : ByteArray) : ByteArray := s.extract 0 3
theorem da_p (Y M D ho mi : Int) (S : Nat) (W J sec iy iw sn mn : Int) (h1 : (decide (0 ≤ W) && decide (W.toNat < 7)) = true) (h2 : isNthS dayL (atF W) = true) (h3 : ((decide ((0 : Int) ≤ 3) && decide ((3 : Int) ≤ (((dayF W).size : Nat) : Int))) && true) = true) : ∃ H' nx', evFunc (withFns cx0 laT lpE) 30 89 #[.agg #[.int .i64 Y, .int .i64 M, .int .i64 D, .int .i64 ho, .int .i64 mi, .float .f64 S, .int .i64 W, .int .i64 J, .int .i64 sec, .int .i64 iy, .int .i64 iw, .int .i64 sn, .int .i64 mn]] H0 12 = some (.string (d3F (dayF W)), H', nx') :=
 oS (hkW laT lpE) (m := [false, true, true, true]) (p := []) (aC h1 (aC h2 (aC h3 aN)))
def da0F (Y M D ho mi : Int) (S : Nat) (W J sec iy iw sn mn : Int) : ByteArray := (d3F (dayF W))
def daOkF (Y M D ho mi : Int) (S : Nat) (W J sec iy iw sn mn : Int) : Bool := decide (0 ≤ W) && decide (W ≤ 6)
theorem da_ev (Y M D ho mi : Int) (S : Nat) (W J sec iy iw sn mn : Int) (hok : daOkF Y M D ho mi S W J sec iy iw sn mn = true) : ∃ H' nx', evFunc (withFns cx0 laT lpE) 30 89 #[moA Y M D ho mi S W J sec iy iw sn mn] H0 12 = some (.string (da0F Y M D ho mi S W J sec iy iw sn mn), H', nx') := by
 unfold daOkF at hok
 simp only [Bool.and_eq_true, decide_eq_true_eq] at hok
 have h : W = 0 ∨ W = 1 ∨ W = 2 ∨ W = 3 ∨ W = 4 ∨ W = 5 ∨ W = 6 := by omega
 rcases h with rfl | rfl | rfl | rfl | rfl | rfl | rfl <;> exact da_p Y M D ho mi S _ J sec iy iw sn mn (by decide) (by decide) (by decide)
def daA : AFn := moFn 89 da0F daOkF
theorem da_sound : PSound cx0 daA.pfn := mo_sound da_ev
theorem dA_p (Y M D ho mi : Int) (S : Nat) (W J sec iy iw sn mn : Int) (h1 : (decide (0 ≤ W) && decide (W.toNat < 7)) = true) (h2 : isNthS dayL (atF W) = true) : ∃ H' nx', evFunc (withFns cx0 laT lpE) 30 91 #[.agg #[.int .i64 Y, .int .i64 M, .int .i64 D, .int .i64 ho, .int .i64 mi, .float .f64 S, .int .i64 W, .int .i64 J, .int .i64 sec, .int .i64 iy, .int .i64 iw, .int .i64 sn, .int .i64 mn]] H0 12 = some (.string (dayF W), H', nx') :=
 oS (hkW laT lpE) (m := [false, true, true]) (p := []) (aC h1 (aC h2 aN))
def dA0F (Y M D ho mi : Int) (S : Nat) (W J sec iy iw sn mn : Int) : ByteArray := (dayF W)
def dAOkF (Y M D ho mi : Int) (S : Nat) (W J sec iy iw sn mn : Int) : Bool := decide (0 ≤ W) && decide (W ≤ 6)
theorem dA_ev (Y M D ho mi : Int) (S : Nat) (W J sec iy iw sn mn : Int) (hok : dAOkF Y M D ho mi S W J sec iy iw sn mn = true) : ∃ H' nx', evFunc (withFns cx0 laT lpE) 30 91 #[moA Y M D ho mi S W J sec iy iw sn mn] H0 12 = some (.string (dA0F Y M D ho mi S W J sec iy iw sn mn), H', nx') := by
 unfold dAOkF at hok
 simp only [Bool.and_eq_true, decide_eq_true_eq] at hok
 have h : W = 0 ∨ W = 1 ∨ W = 2 ∨ W = 3 ∨ W = 4 ∨ W = 5 ∨ W = 6 := by omega
 rcases h with rfl | rfl | rfl | rfl | rfl | rfl | rfl <;> exact dA_p Y M D ho mi S _ J sec iy iw sn mn (by decide) (by decide)
def dAA : AFn := moFn 91 dA0F dAOkF
theorem dA_sound : PSound cx0 dAA.pfn := mo_sound dA_ev
theorem dmon_p (Y M D ho mi : Int) (S : Nat) (W J sec iy iw sn mn : Int) (h1 : (decide (0 ≤ M) && decide (M.toNat < 12)) = true) (h2 : isNthS monL (atF M) = true) (h3 : ((decide ((0 : Int) ≤ 3) && decide ((3 : Int) ≤ (((monF M).size : Nat) : Int))) && true) = true) : ∃ H' nx', evFunc (withFns cx0 laT lpE) 30 86 #[.agg #[.int .i64 Y, .int .i64 M, .int .i64 D, .int .i64 ho, .int .i64 mi, .float .f64 S, .int .i64 W, .int .i64 J, .int .i64 sec, .int .i64 iy, .int .i64 iw, .int .i64 sn, .int .i64 mn]] H0 12 = some (.string (d3F (monF M)), H', nx') :=
 oS (hkW laT lpE) (m := [false, true, true, true]) (p := []) (aC h1 (aC h2 (aC h3 aN)))
def dmon0F (Y M D ho mi : Int) (S : Nat) (W J sec iy iw sn mn : Int) : ByteArray := (d3F (monF M))
def dmonOkF (Y M D ho mi : Int) (S : Nat) (W J sec iy iw sn mn : Int) : Bool := decide (0 ≤ M) && decide (M ≤ 11)
theorem dmon_ev (Y M D ho mi : Int) (S : Nat) (W J sec iy iw sn mn : Int) (hok : dmonOkF Y M D ho mi S W J sec iy iw sn mn = true) : ∃ H' nx', evFunc (withFns cx0 laT lpE) 30 86 #[moA Y M D ho mi S W J sec iy iw sn mn] H0 12 = some (.string (dmon0F Y M D ho mi S W J sec iy iw sn mn), H', nx') := by
 unfold dmonOkF at hok
 simp only [Bool.and_eq_true, decide_eq_true_eq] at hok
 have h : M = 0 ∨ M = 1 ∨ M = 2 ∨ M = 3 ∨ M = 4 ∨ M = 5 ∨ M = 6 ∨ M = 7 ∨ M = 8 ∨ M = 9 ∨ M = 10 ∨ M = 11 := by omega
 rcases h with rfl | rfl | rfl | rfl | rfl | rfl | rfl | rfl | rfl | rfl | rfl | rfl <;> exact dmon_p Y _ D ho mi S W J sec iy iw sn mn (by decide) (by decide) (by decide)
def dmonA : AFn := moFn 86 dmon0F dmonOkF
theorem dmon_sound : PSound cx0 dmonA.pfn := mo_sound dmon_ev
theorem dB_p (Y M D ho mi : Int) (S : Nat) (W J sec iy iw sn mn : Int) (h1 : (decide (0 ≤ M) && decide (M.toNat < 12)) = true) (h2 : isNthS monL (atF M) = true) : ∃ H' nx', evFunc (withFns cx0 laT lpE) 30 92 #[.agg #[.int .i64 Y, .int .i64 M, .int .i64 D, .int .i64 ho, .int .i64 mi, .float .f64 S, .int .i64 W, .int .i64 J, .int .i64 sec, .int .i64 iy, .int .i64 iw, .int .i64 sn, .int .i64 mn]] H0 12 = some (.string (monF M), H', nx') :=
 oS (hkW laT lpE) (m := [false, true, true]) (p := []) (aC h1 (aC h2 aN))
def dB0F (Y M D ho mi : Int) (S : Nat) (W J sec iy iw sn mn : Int) : ByteArray := (monF M)
def dBOkF (Y M D ho mi : Int) (S : Nat) (W J sec iy iw sn mn : Int) : Bool := decide (0 ≤ M) && decide (M ≤ 11)
theorem dB_ev (Y M D ho mi : Int) (S : Nat) (W J sec iy iw sn mn : Int) (hok : dBOkF Y M D ho mi S W J sec iy iw sn mn = true) : ∃ H' nx', evFunc (withFns cx0 laT lpE) 30 92 #[moA Y M D ho mi S W J sec iy iw sn mn] H0 12 = some (.string (dB0F Y M D ho mi S W J sec iy iw sn mn), H', nx') := by
 unfold dBOkF at hok
 simp only [Bool.and_eq_true, decide_eq_true_eq] at hok
 have h : M = 0 ∨ M = 1 ∨ M = 2 ∨ M = 3 ∨ M = 4 ∨ M = 5 ∨ M = 6 ∨ M = 7 ∨ M = 8 ∨ M = 9 ∨ M = 10 ∨ M = 11 := by omega
 rcases h with rfl | rfl | rfl | rfl | rfl | rfl | rfl | rfl | rfl | rfl | rfl | rfl <;> exact dB_p Y _ D ho mi S W J sec iy iw sn mn (by decide) (by decide)
def dBA : AFn := moFn 92 dB0F dBOkF
theorem dB_sound : PSound cx0 dBA.pfn := mo_sound dB_ev
end Go.Proofs.YthopphfehgdocaaGreatDoor
