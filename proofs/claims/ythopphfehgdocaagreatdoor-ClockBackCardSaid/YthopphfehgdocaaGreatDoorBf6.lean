import Derived.Test.YthopphfehgdocaaGreatDoorBf4
namespace Go.Proofs.YthopphfehgdocaaGreatDoor
open Go Go.RowKit Go.Ev Go.Proofs Go.Shelf
set_option linter.unusedSimpArgs false
set_option linter.unusedVariables false
theorem fms_p0 (Y M D ho mi : Int) (S : Nat) (W J : Int) (r1 : ((isTF Y M D ho mi S) == true) = true) (r2 : (((itsOkF false 0 (nsF Y M D ho mi S)) && (i64F (nsF Y M D ho mi S))) == true) = true) : ∃ H' nx', evFunc (withB (laI false 0) []) 120 9 #[.agg #[.int .i64 Y, .int .i64 M, .int .i64 D, .int .i64 ho, .int .i64 mi, .float .f64 S, .int .i64 W, .int .i64 J], .string fb3] H0 12 = some (.tuple #[.string ⟨((litS false 1 (nsF Y M D ho mi S)).map by8).toArray⟩, .int .i64 0], H', nx') :=
  orc_sel (hkB (laI false 0) []) (m := [true, false, false, false, false, false, false, false, false, false, false, false, false, false, true]) (l := [((isTF Y M D ho mi S) == true), (((itsOkF false 0 (nsF Y M D ho mi S)) && (i64F (nsF Y M D ho mi S))) == true)]) (p := [false, true, false, false, false, false, false, false, false, true, true, true, false]) (by kernel_rfl) (by kernel_rfl) (by kernel_rfl) (forall_cons r1 (forall_cons r2 forall_nil))
theorem fms_p1 (Y M D ho mi : Int) (S : Nat) (W J : Int) (r1 : ((isTF Y M D ho mi S) == true) = true) (r2 : (((itsOkF false 1 (nsF Y M D ho mi S)) && (i64F (nsF Y M D ho mi S))) == true) = true) : ∃ H' nx', evFunc (withB (laI false 1) []) 120 9 #[.agg #[.int .i64 Y, .int .i64 M, .int .i64 D, .int .i64 ho, .int .i64 mi, .float .f64 S, .int .i64 W, .int .i64 J], .string fb3] H0 12 = some (.tuple #[.string ⟨((litS false 2 (nsF Y M D ho mi S)).map by8).toArray⟩, .int .i64 0], H', nx') :=
  orc_sel (hkB (laI false 1) []) (m := [true, false, false, false, false, false, false, false, false, false, false, false, false, false, true]) (l := [((isTF Y M D ho mi S) == true), (((itsOkF false 1 (nsF Y M D ho mi S)) && (i64F (nsF Y M D ho mi S))) == true)]) (p := [false, true, false, false, false, false, false, false, false, true, true, true, false]) (by kernel_rfl) (by kernel_rfl) (by kernel_rfl) (forall_cons r1 (forall_cons r2 forall_nil))
theorem fms_p2 (Y M D ho mi : Int) (S : Nat) (W J : Int) (r1 : ((isTF Y M D ho mi S) == true) = true) (r2 : (((itsOkF false 2 (nsF Y M D ho mi S)) && (i64F (nsF Y M D ho mi S))) == true) = true) : ∃ H' nx', evFunc (withB (laI false 2) []) 120 9 #[.agg #[.int .i64 Y, .int .i64 M, .int .i64 D, .int .i64 ho, .int .i64 mi, .float .f64 S, .int .i64 W, .int .i64 J], .string fb3] H0 12 = some (.tuple #[.string ⟨((litS false 3 (nsF Y M D ho mi S)).map by8).toArray⟩, .int .i64 0], H', nx') :=
  orc_sel (hkB (laI false 2) []) (m := [true, false, false, false, false, false, false, false, false, false, false, false, false, false, true]) (l := [((isTF Y M D ho mi S) == true), (((itsOkF false 2 (nsF Y M D ho mi S)) && (i64F (nsF Y M D ho mi S))) == true)]) (p := [false, true, false, false, false, false, false, false, false, true, true, true, false]) (by kernel_rfl) (by kernel_rfl) (by kernel_rfl) (forall_cons r1 (forall_cons r2 forall_nil))
theorem fms_p3 (Y M D ho mi : Int) (S : Nat) (W J : Int) (r1 : ((isTF Y M D ho mi S) == true) = true) (r2 : (((itsOkF false 3 (nsF Y M D ho mi S)) && (i64F (nsF Y M D ho mi S))) == true) = true) : ∃ H' nx', evFunc (withB (laI false 3) []) 120 9 #[.agg #[.int .i64 Y, .int .i64 M, .int .i64 D, .int .i64 ho, .int .i64 mi, .float .f64 S, .int .i64 W, .int .i64 J], .string fb3] H0 12 = some (.tuple #[.string ⟨((litS false 4 (nsF Y M D ho mi S)).map by8).toArray⟩, .int .i64 0], H', nx') :=
  orc_sel (hkB (laI false 3) []) (m := [true, false, false, false, false, false, false, false, false, false, false, false, false, false, true]) (l := [((isTF Y M D ho mi S) == true), (((itsOkF false 3 (nsF Y M D ho mi S)) && (i64F (nsF Y M D ho mi S))) == true)]) (p := [false, true, false, false, false, false, false, false, false, true, true, true, false]) (by kernel_rfl) (by kernel_rfl) (by kernel_rfl) (forall_cons r1 (forall_cons r2 forall_nil))
theorem fms_p4 (Y M D ho mi : Int) (S : Nat) (W J : Int) (r1 : ((isTF Y M D ho mi S) == true) = true) (r2 : (((itsOkF false 4 (nsF Y M D ho mi S)) && (i64F (nsF Y M D ho mi S))) == true) = true) : ∃ H' nx', evFunc (withB (laI false 4) []) 120 9 #[.agg #[.int .i64 Y, .int .i64 M, .int .i64 D, .int .i64 ho, .int .i64 mi, .float .f64 S, .int .i64 W, .int .i64 J], .string fb3] H0 12 = some (.tuple #[.string ⟨((litS false 5 (nsF Y M D ho mi S)).map by8).toArray⟩, .int .i64 0], H', nx') :=
  orc_sel (hkB (laI false 4) []) (m := [true, false, false, false, false, false, false, false, false, false, false, false, false, false, true]) (l := [((isTF Y M D ho mi S) == true), (((itsOkF false 4 (nsF Y M D ho mi S)) && (i64F (nsF Y M D ho mi S))) == true)]) (p := [false, true, false, false, false, false, false, false, false, true, true, true, false]) (by kernel_rfl) (by kernel_rfl) (by kernel_rfl) (forall_cons r1 (forall_cons r2 forall_nil))
theorem fms_p5 (Y M D ho mi : Int) (S : Nat) (W J : Int) (r1 : ((isTF Y M D ho mi S) == true) = true) (r2 : (((itsOkF false 5 (nsF Y M D ho mi S)) && (i64F (nsF Y M D ho mi S))) == true) = true) : ∃ H' nx', evFunc (withB (laI false 5) []) 120 9 #[.agg #[.int .i64 Y, .int .i64 M, .int .i64 D, .int .i64 ho, .int .i64 mi, .float .f64 S, .int .i64 W, .int .i64 J], .string fb3] H0 12 = some (.tuple #[.string ⟨((litS false 6 (nsF Y M D ho mi S)).map by8).toArray⟩, .int .i64 0], H', nx') :=
  orc_sel (hkB (laI false 5) []) (m := [true, false, false, false, false, false, false, false, false, false, false, false, false, false, true]) (l := [((isTF Y M D ho mi S) == true), (((itsOkF false 5 (nsF Y M D ho mi S)) && (i64F (nsF Y M D ho mi S))) == true)]) (p := [false, true, false, false, false, false, false, false, false, true, true, true, false]) (by kernel_rfl) (by kernel_rfl) (by kernel_rfl) (forall_cons r1 (forall_cons r2 forall_nil))
theorem fms_p6 (Y M D ho mi : Int) (S : Nat) (W J : Int) (r1 : ((isTF Y M D ho mi S) == true) = true) (r2 : (((itsOkF false 6 (nsF Y M D ho mi S)) && (i64F (nsF Y M D ho mi S))) == true) = true) : ∃ H' nx', evFunc (withB (laI false 6) []) 120 9 #[.agg #[.int .i64 Y, .int .i64 M, .int .i64 D, .int .i64 ho, .int .i64 mi, .float .f64 S, .int .i64 W, .int .i64 J], .string fb3] H0 12 = some (.tuple #[.string ⟨((litS false 7 (nsF Y M D ho mi S)).map by8).toArray⟩, .int .i64 0], H', nx') :=
  orc_sel (hkB (laI false 6) []) (m := [true, false, false, false, false, false, false, false, false, false, false, false, false, false, true]) (l := [((isTF Y M D ho mi S) == true), (((itsOkF false 6 (nsF Y M D ho mi S)) && (i64F (nsF Y M D ho mi S))) == true)]) (p := [false, true, false, false, false, false, false, false, false, true, true, true, false]) (by kernel_rfl) (by kernel_rfl) (by kernel_rfl) (forall_cons r1 (forall_cons r2 forall_nil))
theorem fms_p7 (Y M D ho mi : Int) (S : Nat) (W J : Int) (r1 : ((isTF Y M D ho mi S) == true) = true) (r2 : (((itsOkF false 7 (nsF Y M D ho mi S)) && (i64F (nsF Y M D ho mi S))) == true) = true) : ∃ H' nx', evFunc (withB (laI false 7) []) 120 9 #[.agg #[.int .i64 Y, .int .i64 M, .int .i64 D, .int .i64 ho, .int .i64 mi, .float .f64 S, .int .i64 W, .int .i64 J], .string fb3] H0 12 = some (.tuple #[.string ⟨((litS false 8 (nsF Y M D ho mi S)).map by8).toArray⟩, .int .i64 0], H', nx') :=
  orc_sel (hkB (laI false 7) []) (m := [true, false, false, false, false, false, false, false, false, false, false, false, false, false, true]) (l := [((isTF Y M D ho mi S) == true), (((itsOkF false 7 (nsF Y M D ho mi S)) && (i64F (nsF Y M D ho mi S))) == true)]) (p := [false, true, false, false, false, false, false, false, false, true, true, true, false]) (by kernel_rfl) (by kernel_rfl) (by kernel_rfl) (forall_cons r1 (forall_cons r2 forall_nil))
theorem fms_p8 (Y M D ho mi : Int) (S : Nat) (W J : Int) (r1 : ((isTF Y M D ho mi S) == true) = true) (r2 : (((itsOkF false 8 (nsF Y M D ho mi S)) && (i64F (nsF Y M D ho mi S))) == true) = true) : ∃ H' nx', evFunc (withB (laI false 8) []) 120 9 #[.agg #[.int .i64 Y, .int .i64 M, .int .i64 D, .int .i64 ho, .int .i64 mi, .float .f64 S, .int .i64 W, .int .i64 J], .string fb3] H0 12 = some (.tuple #[.string ⟨((litS false 9 (nsF Y M D ho mi S)).map by8).toArray⟩, .int .i64 0], H', nx') :=
  orc_sel (hkB (laI false 8) []) (m := [true, false, false, false, false, false, false, false, false, false, false, false, false, false, true]) (l := [((isTF Y M D ho mi S) == true), (((itsOkF false 8 (nsF Y M D ho mi S)) && (i64F (nsF Y M D ho mi S))) == true)]) (p := [false, true, false, false, false, false, false, false, false, true, true, true, false]) (by kernel_rfl) (by kernel_rfl) (by kernel_rfl) (forall_cons r1 (forall_cons r2 forall_nil))
theorem fms_p9 (Y M D ho mi : Int) (S : Nat) (W J : Int) (r1 : ((isTF Y M D ho mi S) == true) = true) (r2 : (((itsOkF false 9 (nsF Y M D ho mi S)) && (i64F (nsF Y M D ho mi S))) == true) = true) : ∃ H' nx', evFunc (withB (laI false 9) []) 120 9 #[.agg #[.int .i64 Y, .int .i64 M, .int .i64 D, .int .i64 ho, .int .i64 mi, .float .f64 S, .int .i64 W, .int .i64 J], .string fb3] H0 12 = some (.tuple #[.string ⟨((litS false 10 (nsF Y M D ho mi S)).map by8).toArray⟩, .int .i64 0], H', nx') :=
  orc_sel (hkB (laI false 9) []) (m := [true, false, false, false, false, false, false, false, false, false, false, false, false, false, true]) (l := [((isTF Y M D ho mi S) == true), (((itsOkF false 9 (nsF Y M D ho mi S)) && (i64F (nsF Y M D ho mi S))) == true)]) (p := [false, true, false, false, false, false, false, false, false, true, true, true, false]) (by kernel_rfl) (by kernel_rfl) (by kernel_rfl) (forall_cons r1 (forall_cons r2 forall_nil))
theorem fms_p10 (Y M D ho mi : Int) (S : Nat) (W J : Int) (r1 : ((isTF Y M D ho mi S) == true) = true) (r2 : (((itsOkF false 10 (nsF Y M D ho mi S)) && (i64F (nsF Y M D ho mi S))) == true) = true) : ∃ H' nx', evFunc (withB (laI false 10) []) 120 9 #[.agg #[.int .i64 Y, .int .i64 M, .int .i64 D, .int .i64 ho, .int .i64 mi, .float .f64 S, .int .i64 W, .int .i64 J], .string fb3] H0 12 = some (.tuple #[.string ⟨((litS false 11 (nsF Y M D ho mi S)).map by8).toArray⟩, .int .i64 0], H', nx') :=
  orc_sel (hkB (laI false 10) []) (m := [true, false, false, false, false, false, false, false, false, false, false, false, false, false, true]) (l := [((isTF Y M D ho mi S) == true), (((itsOkF false 10 (nsF Y M D ho mi S)) && (i64F (nsF Y M D ho mi S))) == true)]) (p := [false, true, false, false, false, false, false, false, false, true, true, true, false]) (by kernel_rfl) (by kernel_rfl) (by kernel_rfl) (forall_cons r1 (forall_cons r2 forall_nil))
theorem fms_p11 (Y M D ho mi : Int) (S : Nat) (W J : Int) (r1 : ((isTF Y M D ho mi S) == true) = true) (r2 : (((itsOkF false 11 (nsF Y M D ho mi S)) && (i64F (nsF Y M D ho mi S))) == true) = true) : ∃ H' nx', evFunc (withB (laI false 11) []) 120 9 #[.agg #[.int .i64 Y, .int .i64 M, .int .i64 D, .int .i64 ho, .int .i64 mi, .float .f64 S, .int .i64 W, .int .i64 J], .string fb3] H0 12 = some (.tuple #[.string ⟨((litS false 12 (nsF Y M D ho mi S)).map by8).toArray⟩, .int .i64 0], H', nx') :=
  orc_sel (hkB (laI false 11) []) (m := [true, false, false, false, false, false, false, false, false, false, false, false, false, false, true]) (l := [((isTF Y M D ho mi S) == true), (((itsOkF false 11 (nsF Y M D ho mi S)) && (i64F (nsF Y M D ho mi S))) == true)]) (p := [false, true, false, false, false, false, false, false, false, true, true, true, false]) (by kernel_rfl) (by kernel_rfl) (by kernel_rfl) (forall_cons r1 (forall_cons r2 forall_nil))
theorem fms_n0 (Y M D ho mi : Int) (S : Nat) (W J : Int) (r1 : ((isTF Y M D ho mi S) == true) = true) (r2 : (((itsOkF true 0 (nsF Y M D ho mi S)) && (i64F (nsF Y M D ho mi S))) == true) = true) : ∃ H' nx', evFunc (withB (laI true 0) []) 120 9 #[.agg #[.int .i64 Y, .int .i64 M, .int .i64 D, .int .i64 ho, .int .i64 mi, .float .f64 S, .int .i64 W, .int .i64 J], .string fb3] H0 12 = some (.tuple #[.string ⟨((litS true 1 (nsF Y M D ho mi S)).map by8).toArray⟩, .int .i64 0], H', nx') :=
  orc_sel (hkB (laI true 0) []) (m := [true, false, false, false, false, false, false, false, false, false, false, false, false, false, true]) (l := [((isTF Y M D ho mi S) == true), (((itsOkF true 0 (nsF Y M D ho mi S)) && (i64F (nsF Y M D ho mi S))) == true)]) (p := [false, true, false, false, false, false, false, false, false, true, true, true, false]) (by kernel_rfl) (by kernel_rfl) (by kernel_rfl) (forall_cons r1 (forall_cons r2 forall_nil))
theorem fms_n1 (Y M D ho mi : Int) (S : Nat) (W J : Int) (r1 : ((isTF Y M D ho mi S) == true) = true) (r2 : (((itsOkF true 1 (nsF Y M D ho mi S)) && (i64F (nsF Y M D ho mi S))) == true) = true) : ∃ H' nx', evFunc (withB (laI true 1) []) 120 9 #[.agg #[.int .i64 Y, .int .i64 M, .int .i64 D, .int .i64 ho, .int .i64 mi, .float .f64 S, .int .i64 W, .int .i64 J], .string fb3] H0 12 = some (.tuple #[.string ⟨((litS true 2 (nsF Y M D ho mi S)).map by8).toArray⟩, .int .i64 0], H', nx') :=
  orc_sel (hkB (laI true 1) []) (m := [true, false, false, false, false, false, false, false, false, false, false, false, false, false, true]) (l := [((isTF Y M D ho mi S) == true), (((itsOkF true 1 (nsF Y M D ho mi S)) && (i64F (nsF Y M D ho mi S))) == true)]) (p := [false, true, false, false, false, false, false, false, false, true, true, true, false]) (by kernel_rfl) (by kernel_rfl) (by kernel_rfl) (forall_cons r1 (forall_cons r2 forall_nil))
theorem fms_n2 (Y M D ho mi : Int) (S : Nat) (W J : Int) (r1 : ((isTF Y M D ho mi S) == true) = true) (r2 : (((itsOkF true 2 (nsF Y M D ho mi S)) && (i64F (nsF Y M D ho mi S))) == true) = true) : ∃ H' nx', evFunc (withB (laI true 2) []) 120 9 #[.agg #[.int .i64 Y, .int .i64 M, .int .i64 D, .int .i64 ho, .int .i64 mi, .float .f64 S, .int .i64 W, .int .i64 J], .string fb3] H0 12 = some (.tuple #[.string ⟨((litS true 3 (nsF Y M D ho mi S)).map by8).toArray⟩, .int .i64 0], H', nx') :=
  orc_sel (hkB (laI true 2) []) (m := [true, false, false, false, false, false, false, false, false, false, false, false, false, false, true]) (l := [((isTF Y M D ho mi S) == true), (((itsOkF true 2 (nsF Y M D ho mi S)) && (i64F (nsF Y M D ho mi S))) == true)]) (p := [false, true, false, false, false, false, false, false, false, true, true, true, false]) (by kernel_rfl) (by kernel_rfl) (by kernel_rfl) (forall_cons r1 (forall_cons r2 forall_nil))
theorem fms_n3 (Y M D ho mi : Int) (S : Nat) (W J : Int) (r1 : ((isTF Y M D ho mi S) == true) = true) (r2 : (((itsOkF true 3 (nsF Y M D ho mi S)) && (i64F (nsF Y M D ho mi S))) == true) = true) : ∃ H' nx', evFunc (withB (laI true 3) []) 120 9 #[.agg #[.int .i64 Y, .int .i64 M, .int .i64 D, .int .i64 ho, .int .i64 mi, .float .f64 S, .int .i64 W, .int .i64 J], .string fb3] H0 12 = some (.tuple #[.string ⟨((litS true 4 (nsF Y M D ho mi S)).map by8).toArray⟩, .int .i64 0], H', nx') :=
  orc_sel (hkB (laI true 3) []) (m := [true, false, false, false, false, false, false, false, false, false, false, false, false, false, true]) (l := [((isTF Y M D ho mi S) == true), (((itsOkF true 3 (nsF Y M D ho mi S)) && (i64F (nsF Y M D ho mi S))) == true)]) (p := [false, true, false, false, false, false, false, false, false, true, true, true, false]) (by kernel_rfl) (by kernel_rfl) (by kernel_rfl) (forall_cons r1 (forall_cons r2 forall_nil))
theorem fms_n4 (Y M D ho mi : Int) (S : Nat) (W J : Int) (r1 : ((isTF Y M D ho mi S) == true) = true) (r2 : (((itsOkF true 4 (nsF Y M D ho mi S)) && (i64F (nsF Y M D ho mi S))) == true) = true) : ∃ H' nx', evFunc (withB (laI true 4) []) 120 9 #[.agg #[.int .i64 Y, .int .i64 M, .int .i64 D, .int .i64 ho, .int .i64 mi, .float .f64 S, .int .i64 W, .int .i64 J], .string fb3] H0 12 = some (.tuple #[.string ⟨((litS true 5 (nsF Y M D ho mi S)).map by8).toArray⟩, .int .i64 0], H', nx') :=
  orc_sel (hkB (laI true 4) []) (m := [true, false, false, false, false, false, false, false, false, false, false, false, false, false, true]) (l := [((isTF Y M D ho mi S) == true), (((itsOkF true 4 (nsF Y M D ho mi S)) && (i64F (nsF Y M D ho mi S))) == true)]) (p := [false, true, false, false, false, false, false, false, false, true, true, true, false]) (by kernel_rfl) (by kernel_rfl) (by kernel_rfl) (forall_cons r1 (forall_cons r2 forall_nil))
theorem fms_n5 (Y M D ho mi : Int) (S : Nat) (W J : Int) (r1 : ((isTF Y M D ho mi S) == true) = true) (r2 : (((itsOkF true 5 (nsF Y M D ho mi S)) && (i64F (nsF Y M D ho mi S))) == true) = true) : ∃ H' nx', evFunc (withB (laI true 5) []) 120 9 #[.agg #[.int .i64 Y, .int .i64 M, .int .i64 D, .int .i64 ho, .int .i64 mi, .float .f64 S, .int .i64 W, .int .i64 J], .string fb3] H0 12 = some (.tuple #[.string ⟨((litS true 6 (nsF Y M D ho mi S)).map by8).toArray⟩, .int .i64 0], H', nx') :=
  orc_sel (hkB (laI true 5) []) (m := [true, false, false, false, false, false, false, false, false, false, false, false, false, false, true]) (l := [((isTF Y M D ho mi S) == true), (((itsOkF true 5 (nsF Y M D ho mi S)) && (i64F (nsF Y M D ho mi S))) == true)]) (p := [false, true, false, false, false, false, false, false, false, true, true, true, false]) (by kernel_rfl) (by kernel_rfl) (by kernel_rfl) (forall_cons r1 (forall_cons r2 forall_nil))
theorem fms_n6 (Y M D ho mi : Int) (S : Nat) (W J : Int) (r1 : ((isTF Y M D ho mi S) == true) = true) (r2 : (((itsOkF true 6 (nsF Y M D ho mi S)) && (i64F (nsF Y M D ho mi S))) == true) = true) : ∃ H' nx', evFunc (withB (laI true 6) []) 120 9 #[.agg #[.int .i64 Y, .int .i64 M, .int .i64 D, .int .i64 ho, .int .i64 mi, .float .f64 S, .int .i64 W, .int .i64 J], .string fb3] H0 12 = some (.tuple #[.string ⟨((litS true 7 (nsF Y M D ho mi S)).map by8).toArray⟩, .int .i64 0], H', nx') :=
  orc_sel (hkB (laI true 6) []) (m := [true, false, false, false, false, false, false, false, false, false, false, false, false, false, true]) (l := [((isTF Y M D ho mi S) == true), (((itsOkF true 6 (nsF Y M D ho mi S)) && (i64F (nsF Y M D ho mi S))) == true)]) (p := [false, true, false, false, false, false, false, false, false, true, true, true, false]) (by kernel_rfl) (by kernel_rfl) (by kernel_rfl) (forall_cons r1 (forall_cons r2 forall_nil))
theorem fms_n7 (Y M D ho mi : Int) (S : Nat) (W J : Int) (r1 : ((isTF Y M D ho mi S) == true) = true) (r2 : (((itsOkF true 7 (nsF Y M D ho mi S)) && (i64F (nsF Y M D ho mi S))) == true) = true) : ∃ H' nx', evFunc (withB (laI true 7) []) 120 9 #[.agg #[.int .i64 Y, .int .i64 M, .int .i64 D, .int .i64 ho, .int .i64 mi, .float .f64 S, .int .i64 W, .int .i64 J], .string fb3] H0 12 = some (.tuple #[.string ⟨((litS true 8 (nsF Y M D ho mi S)).map by8).toArray⟩, .int .i64 0], H', nx') :=
  orc_sel (hkB (laI true 7) []) (m := [true, false, false, false, false, false, false, false, false, false, false, false, false, false, true]) (l := [((isTF Y M D ho mi S) == true), (((itsOkF true 7 (nsF Y M D ho mi S)) && (i64F (nsF Y M D ho mi S))) == true)]) (p := [false, true, false, false, false, false, false, false, false, true, true, true, false]) (by kernel_rfl) (by kernel_rfl) (by kernel_rfl) (forall_cons r1 (forall_cons r2 forall_nil))
theorem fms_n8 (Y M D ho mi : Int) (S : Nat) (W J : Int) (r1 : ((isTF Y M D ho mi S) == true) = true) (r2 : (((itsOkF true 8 (nsF Y M D ho mi S)) && (i64F (nsF Y M D ho mi S))) == true) = true) : ∃ H' nx', evFunc (withB (laI true 8) []) 120 9 #[.agg #[.int .i64 Y, .int .i64 M, .int .i64 D, .int .i64 ho, .int .i64 mi, .float .f64 S, .int .i64 W, .int .i64 J], .string fb3] H0 12 = some (.tuple #[.string ⟨((litS true 9 (nsF Y M D ho mi S)).map by8).toArray⟩, .int .i64 0], H', nx') :=
  orc_sel (hkB (laI true 8) []) (m := [true, false, false, false, false, false, false, false, false, false, false, false, false, false, true]) (l := [((isTF Y M D ho mi S) == true), (((itsOkF true 8 (nsF Y M D ho mi S)) && (i64F (nsF Y M D ho mi S))) == true)]) (p := [false, true, false, false, false, false, false, false, false, true, true, true, false]) (by kernel_rfl) (by kernel_rfl) (by kernel_rfl) (forall_cons r1 (forall_cons r2 forall_nil))
theorem fms_n9 (Y M D ho mi : Int) (S : Nat) (W J : Int) (r1 : ((isTF Y M D ho mi S) == true) = true) (r2 : (((itsOkF true 9 (nsF Y M D ho mi S)) && (i64F (nsF Y M D ho mi S))) == true) = true) : ∃ H' nx', evFunc (withB (laI true 9) []) 120 9 #[.agg #[.int .i64 Y, .int .i64 M, .int .i64 D, .int .i64 ho, .int .i64 mi, .float .f64 S, .int .i64 W, .int .i64 J], .string fb3] H0 12 = some (.tuple #[.string ⟨((litS true 10 (nsF Y M D ho mi S)).map by8).toArray⟩, .int .i64 0], H', nx') :=
  orc_sel (hkB (laI true 9) []) (m := [true, false, false, false, false, false, false, false, false, false, false, false, false, false, true]) (l := [((isTF Y M D ho mi S) == true), (((itsOkF true 9 (nsF Y M D ho mi S)) && (i64F (nsF Y M D ho mi S))) == true)]) (p := [false, true, false, false, false, false, false, false, false, true, true, true, false]) (by kernel_rfl) (by kernel_rfl) (by kernel_rfl) (forall_cons r1 (forall_cons r2 forall_nil))
theorem fms_n10 (Y M D ho mi : Int) (S : Nat) (W J : Int) (r1 : ((isTF Y M D ho mi S) == true) = true) (r2 : (((itsOkF true 10 (nsF Y M D ho mi S)) && (i64F (nsF Y M D ho mi S))) == true) = true) : ∃ H' nx', evFunc (withB (laI true 10) []) 120 9 #[.agg #[.int .i64 Y, .int .i64 M, .int .i64 D, .int .i64 ho, .int .i64 mi, .float .f64 S, .int .i64 W, .int .i64 J], .string fb3] H0 12 = some (.tuple #[.string ⟨((litS true 11 (nsF Y M D ho mi S)).map by8).toArray⟩, .int .i64 0], H', nx') :=
  orc_sel (hkB (laI true 10) []) (m := [true, false, false, false, false, false, false, false, false, false, false, false, false, false, true]) (l := [((isTF Y M D ho mi S) == true), (((itsOkF true 10 (nsF Y M D ho mi S)) && (i64F (nsF Y M D ho mi S))) == true)]) (p := [false, true, false, false, false, false, false, false, false, true, true, true, false]) (by kernel_rfl) (by kernel_rfl) (by kernel_rfl) (forall_cons r1 (forall_cons r2 forall_nil))
end Go.Proofs.YthopphfehgdocaaGreatDoor
namespace Go.Proofs.YthopphfehgdocaaGreatDoor
open Go Go.RowKit Go.Ev Go.Proofs Go.Shelf
set_option linter.unusedSimpArgs false
set_option linter.unusedVariables false
theorem map_by8 (l : List UInt8) : l.map by8 = l := by
  induction l with
  | nil => rfl
  | cons c r ih => rw [List.map_cons, by8_eq, ih]
section
variable (Y M D ho mi : Int) (S : Nat) (W J : Int)
theorem fmt_ev3 (h : isoKF Y M D ho mi S = true) : ∃ la, (∀ e ∈ la, PSound cx0 e.pfn) ∧ ∃ H' nx', evFunc (withB la []) 120 9 #[.agg #[.int .i64 Y, .int .i64 M, .int .i64 D, .int .i64 ho, .int .i64 mi, .float .f64 S, .int .i64 W, .int .i64 J], .string fb3] H0 12 = some (.tuple #[.string (txF 3 (nsF Y M D ho mi S)), .int .i64 0], H', nx') := by
  unfold isoKF at h
  simp only [Bool.and_eq_true] at h
  obtain ⟨h1, h2⟩ := h
  have hy := h2
  unfold it4F at hy
  simp only [Bool.and_eq_true, decide_eq_true_eq] at hy
  obtain ⟨n, hn, n1, n2, hY, -⟩ := isT_spec h1
  have lo := Clk.year_lo (n / 86400) (by omega)
  have t0 : ((isTF Y M D ho mi S) == true) = true := by rw [h1]; rfl
  have i0 : i64F n = true := by
    unfold i64F
    simp only [Bool.and_eq_true, decide_eq_true_eq]
    omega
  have key : ∀ neg l, itsOkF neg l n = true → ((((itsOkF neg l (nsF Y M D ho mi S)) && (i64F (nsF Y M D ho mi S))) == true) = true → ∃ H' nx', evFunc (withB (laI neg l) []) 120 9 #[.agg #[.int .i64 Y, .int .i64 M, .int .i64 D, .int .i64 ho, .int .i64 mi, .float .f64 S, .int .i64 W, .int .i64 J], .string fb3] H0 12 = some (.tuple #[.string ⟨((litS neg (l + 1) (nsF Y M D ho mi S)).map by8).toArray⟩, .int .i64 0], H', nx')) → ∃ la, (∀ e ∈ la, PSound cx0 e.pfn) ∧ ∃ H' nx', evFunc (withB la []) 120 9 #[.agg #[.int .i64 Y, .int .i64 M, .int .i64 D, .int .i64 ho, .int .i64 mi, .float .f64 S, .int .i64 W, .int .i64 J], .string fb3] H0 12 = some (.tuple #[.string (txF 3 (nsF Y M D ho mi S)), .int .i64 0], H', nx') := by
    intro neg l hok hr
    obtain ⟨H', nx', e⟩ := hr (by rw [hn, hok, i0]; rfl)
    refine ⟨laI neg l, laI_sound neg l, H', nx', ?_⟩
    rw [e, map_by8]
    have : txF 3 (nsF Y M D ho mi S) = itoaF (nsF Y M D ho mi S) := rfl
    rw [this, itoa_lit (neg := neg) (l := l) (by rw [hn]; exact hok)]
  have ok : ∀ neg l, (match neg with | true => n < 0 ∧ (-n).toNat < 10 ^ (l + 1) ∧ (l = 0 ∨ 10 ^ l ≤ (-n).toNat) | false => 0 ≤ n ∧ n.toNat < 10 ^ (l + 1) ∧ (l = 0 ∨ 10 ^ l ≤ n.toNat)) → itsOkF neg l n = true := by
    intro neg l q
    cases neg <;> (unfold itsOkF; simp only [Bool.and_eq_true, Bool.or_eq_true, decide_eq_true_eq]; exact q)
  by_cases hneg : n < 0
  · by_cases c0 : (-n).toNat < 10
    · exact key true 0 (ok true 0 ⟨hneg, by omega, (.inl rfl)⟩) (fms_n0 Y M D ho mi S W J t0)
    · by_cases c1 : (-n).toNat < 100
      · exact key true 1 (ok true 1 ⟨hneg, by omega, (.inr (by omega))⟩) (fms_n1 Y M D ho mi S W J t0)
      · by_cases c2 : (-n).toNat < 1000
        · exact key true 2 (ok true 2 ⟨hneg, by omega, (.inr (by omega))⟩) (fms_n2 Y M D ho mi S W J t0)
        · by_cases c3 : (-n).toNat < 10000
          · exact key true 3 (ok true 3 ⟨hneg, by omega, (.inr (by omega))⟩) (fms_n3 Y M D ho mi S W J t0)
          · by_cases c4 : (-n).toNat < 100000
            · exact key true 4 (ok true 4 ⟨hneg, by omega, (.inr (by omega))⟩) (fms_n4 Y M D ho mi S W J t0)
            · by_cases c5 : (-n).toNat < 1000000
              · exact key true 5 (ok true 5 ⟨hneg, by omega, (.inr (by omega))⟩) (fms_n5 Y M D ho mi S W J t0)
              · by_cases c6 : (-n).toNat < 10000000
                · exact key true 6 (ok true 6 ⟨hneg, by omega, (.inr (by omega))⟩) (fms_n6 Y M D ho mi S W J t0)
                · by_cases c7 : (-n).toNat < 100000000
                  · exact key true 7 (ok true 7 ⟨hneg, by omega, (.inr (by omega))⟩) (fms_n7 Y M D ho mi S W J t0)
                  · by_cases c8 : (-n).toNat < 1000000000
                    · exact key true 8 (ok true 8 ⟨hneg, by omega, (.inr (by omega))⟩) (fms_n8 Y M D ho mi S W J t0)
                    · by_cases c9 : (-n).toNat < 10000000000
                      · exact key true 9 (ok true 9 ⟨hneg, by omega, (.inr (by omega))⟩) (fms_n9 Y M D ho mi S W J t0)
                      · exact key true 10 (ok true 10 ⟨hneg, by omega, (.inr (by omega))⟩) (fms_n10 Y M D ho mi S W J t0)
  · by_cases c0 : n.toNat < 10
    · exact key false 0 (ok false 0 ⟨(by omega), by omega, (.inl rfl)⟩) (fms_p0 Y M D ho mi S W J t0)
    · by_cases c1 : n.toNat < 100
      · exact key false 1 (ok false 1 ⟨(by omega), by omega, (.inr (by omega))⟩) (fms_p1 Y M D ho mi S W J t0)
      · by_cases c2 : n.toNat < 1000
        · exact key false 2 (ok false 2 ⟨(by omega), by omega, (.inr (by omega))⟩) (fms_p2 Y M D ho mi S W J t0)
        · by_cases c3 : n.toNat < 10000
          · exact key false 3 (ok false 3 ⟨(by omega), by omega, (.inr (by omega))⟩) (fms_p3 Y M D ho mi S W J t0)
          · by_cases c4 : n.toNat < 100000
            · exact key false 4 (ok false 4 ⟨(by omega), by omega, (.inr (by omega))⟩) (fms_p4 Y M D ho mi S W J t0)
            · by_cases c5 : n.toNat < 1000000
              · exact key false 5 (ok false 5 ⟨(by omega), by omega, (.inr (by omega))⟩) (fms_p5 Y M D ho mi S W J t0)
              · by_cases c6 : n.toNat < 10000000
                · exact key false 6 (ok false 6 ⟨(by omega), by omega, (.inr (by omega))⟩) (fms_p6 Y M D ho mi S W J t0)
                · by_cases c7 : n.toNat < 100000000
                  · exact key false 7 (ok false 7 ⟨(by omega), by omega, (.inr (by omega))⟩) (fms_p7 Y M D ho mi S W J t0)
                  · by_cases c8 : n.toNat < 1000000000
                    · exact key false 8 (ok false 8 ⟨(by omega), by omega, (.inr (by omega))⟩) (fms_p8 Y M D ho mi S W J t0)
                    · by_cases c9 : n.toNat < 10000000000
                      · exact key false 9 (ok false 9 ⟨(by omega), by omega, (.inr (by omega))⟩) (fms_p9 Y M D ho mi S W J t0)
                      · by_cases c10 : n.toNat < 100000000000
                        · exact key false 10 (ok false 10 ⟨(by omega), by omega, (.inr (by omega))⟩) (fms_p10 Y M D ho mi S W J t0)
                        · exact key false 11 (ok false 11 ⟨(by omega), by omega, (.inr (by omega))⟩) (fms_p11 Y M D ho mi S W J t0)
end
theorem psound_startB' {e : PFn}
    (hg : ∀ args v, e.p args = some v → args.toList.all (closed 60) = true ∧ shut v = true ∧ ∃ la lp, (∀ e ∈ la, PSound cx0 e.pfn) ∧ (∀ e ∈ lp, PSound cx0 e) ∧ ∃ n H' nx', evFunc (withB la lp) n e.f args H0 12 = some (v, H', nx')) : PSound cx0 e := fun i =>
  pureI_sound fun args args' v B w E hW hB har hp' => by
    obtain ⟨hcl, hv, la, lp, ha, hp, n, H', nx', h⟩ := hg args v hp'
    obtain ⟨h11, a, hab, hk⟩ := hW
    have he : args' = args := by
      refine Array.ext har.1.symm fun k h1 h2 => ?_
      have p : args[k]? = some args[k] := Array.getElem?_eq_getElem h2
      have q : args'[k]? = some args'[k] := Array.getElem?_eq_getElem h1
      exact (har.2 k _ _ p q).shut_eq 60 (closed_all hcl k _ p)
    subst he
    refine (ev_start (cx := withB la lp) (CxOk.withB la lp) (withB_intr ha hp) w (startWB hk la lp) ⟨by omega, a, by omega, hk⟩ (AR.closed _ hcl) h hv).mono ?_
    rintro e w' ⟨rfl, hb⟩
    exact ⟨rfl, hv, hb⟩
/-- which of the six formats -/
def fmtK (f : ByteArray) : Nat := if f.data.toList = fb1.data.toList then 1 else if f.data.toList = fb2.data.toList then 2 else if f.data.toList = fb3.data.toList then 3 else if f.data.toList = fb4.data.toList then 4 else if f.data.toList = fb5.data.toList then 5 else if f.data.toList = fb6.data.toList then 6 else 0
theorem fmtK_spec {f : ByteArray} {k : Nat} (h : fmtK f = k + 1) : (k = 0 ∧ f = fb1) ∨ (k = 1 ∧ f = fb2) ∨ (k = 2 ∧ f = fb3) ∨ (k = 3 ∧ f = fb4) ∨ (k = 4 ∧ f = fb5) ∨ (k = 5 ∧ f = fb6) := by
  have ext : ∀ g : ByteArray, f.data.toList = g.data.toList → f = g := fun g h => by
    apply ByteArray.ext
    exact Array.toList_inj.1 h
  unfold fmtK at h
  split at h
  · rename_i q; exact .inl ⟨by omega, ext _ q⟩
  · split at h
    · rename_i q; exact .inr (.inl ⟨by omega, ext _ q⟩)
    · split at h
      · rename_i q; exact .inr (.inr (.inl ⟨by omega, ext _ q⟩))
      · split at h
        · rename_i q; exact .inr (.inr (.inr (.inl ⟨by omega, ext _ q⟩)))
        · split at h
          · rename_i q; exact .inr (.inr (.inr (.inr (.inl ⟨by omega, ext _ q⟩))))
          · split at h
            · rename_i q; exact .inr (.inr (.inr (.inr (.inr ⟨by omega, ext _ q⟩))))
            · omega
def fmV (args : Array Value) : Option Value := match args.toList with
  | [.agg a, .string f] => match a.toList with
    | [.int .i64 Y, .int .i64 M, .int .i64 D, .int .i64 ho, .int .i64 mi, .float .f64 S, .int .i64 W, .int .i64 J] => match fmtK f with
      | 0 => none
      | k + 1 => some (.tuple #[.string (txF (k + 1) (nsF Y M D ho mi S)), .int .i64 0])
    | _ => none
  | _ => none
def fmA : AFn := { f := 9, val := fmV, ok := isoK }
theorem fm_sound : PSound cx0 fmA.pfn := psound_startB' fun args v h => by
  obtain ⟨hv, hk⟩ := afn_some h
  replace hv : fmV args = some v := hv
  replace hk : isoK args = true := hk
  unfold fmV at hv
  split at hv
  · rename_i a f hx
    have ha := args_list hx
    subst ha
    split at hv
    · rename_i Y M D ho mi S W J hx2
      have ha2 := args_list hx2
      subst ha2
      split at hv
      · cases hv
      · rename_i k hq
        cases hv
        have hok : isoKF Y M D ho mi S = true := by simpa [isoK] using hk
        refine ⟨rfl, rfl, ?_⟩
        rcases fmtK_spec hq with ⟨rfl, rfl⟩ | ⟨rfl, rfl⟩ | ⟨rfl, rfl⟩ | ⟨rfl, rfl⟩ | ⟨rfl, rfl⟩ | ⟨rfl, rfl⟩
        · exact ⟨laF, [], laF_sound, psound_nil, 120, fmt_ev1 Y M D ho mi S W J hok⟩
        · exact ⟨laF, [], laF_sound, psound_nil, 120, fmt_ev2 Y M D ho mi S W J hok⟩
        · obtain ⟨la, hla, e⟩ := fmt_ev3 Y M D ho mi S W J hok
          exact ⟨la, [], hla, psound_nil, 120, e⟩
        · exact ⟨laF, [], laF_sound, psound_nil, 120, fmt_ev4 Y M D ho mi S W J hok⟩
        · exact ⟨laF, [], laF_sound, psound_nil, 120, fmt_ev5 Y M D ho mi S W J hok⟩
        · exact ⟨laF, [], laF_sound, psound_nil, 120, fmt_ev6 Y M D ho mi S W J hok⟩
    · cases hv
  · cases hv
end Go.Proofs.YthopphfehgdocaaGreatDoor
