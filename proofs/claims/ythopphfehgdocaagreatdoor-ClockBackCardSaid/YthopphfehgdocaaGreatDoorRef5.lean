import Derived.Test.YthopphfehgdocaaGreatDoorRef4
namespace Go.Proofs.YthopphfehgdocaaGreatDoor
open Go Go.RowKit Go.Ev Go.Proofs Go.Shelf
set_option linter.unusedSimpArgs false
set_option linter.unusedVariables false

theorem norm_p0 (Y : Int) (M : Int) (D : Int) (ho : Int) (mi : Int) (S : Nat) (W : Int) (J : Int) (h1 : ((cjoinOkF Y M D ho mi S W J) == true) = true) (h2 : (((cjoin1F Y M D ho mi S W J) != 0) == false) = true) (h3 : ((csplitOkF (FloatKind.nearest FloatKind.f64 (cjoin0F Y M D ho mi S W J))) == true) = true) (h4 : (((csplit0F (FloatKind.nearest FloatKind.f64 (cjoin0F Y M D ho mi S W J))) != Y) == false) = true) (h5 : (((csplit1F (FloatKind.nearest FloatKind.f64 (cjoin0F Y M D ho mi S W J))) != M) == false) = true) (h6 : (((csplit2F (FloatKind.nearest FloatKind.f64 (cjoin0F Y M D ho mi S W J))) != D) == false) = true) (h7 : (((csplit3F (FloatKind.nearest FloatKind.f64 (cjoin0F Y M D ho mi S W J))) != ho) == false) = true) (h8 : (((csplit4F (FloatKind.nearest FloatKind.f64 (cjoin0F Y M D ho mi S W J))) != mi) == false) = true) (h9 : (Go.Ev.froundOk S) = true) (h10 : (((Ieee.Format.order (FloatKind.format FloatKind.f64) (csplit5F (FloatKind.nearest FloatKind.f64 (cjoin0F Y M D ho mi S W J))) (Go.Ev.fround Ieee.Toward.down S)) != (Option.some Ordering.eq)) == false) = true) (h11 : ((cdayOkF (csplit0F (FloatKind.nearest FloatKind.f64 (cjoin0F Y M D ho mi S W J))) (csplit1F (FloatKind.nearest FloatKind.f64 (cjoin0F Y M D ho mi S W J))) (csplit2F (FloatKind.nearest FloatKind.f64 (cjoin0F Y M D ho mi S W J)))) == true) = true) (h12 : ((cwksOkF (cday0F (csplit0F (FloatKind.nearest FloatKind.f64 (cjoin0F Y M D ho mi S W J))) (csplit1F (FloatKind.nearest FloatKind.f64 (cjoin0F Y M D ho mi S W J))) (csplit2F (FloatKind.nearest FloatKind.f64 (cjoin0F Y M D ho mi S W J))))) == true) = true) : ∃ H' nx', evFunc (withFns cx0 laG lpE) 30 33 #[.agg #[.int .i64 Y, .int .i64 M, .int .i64 D, .int .i64 ho, .int .i64 mi, .float .f64 S, .int .i64 W, .int .i64 J]] H0 12 = some ((Go.Value.tuple #[(Go.Value.agg #[(Go.Value.int IntKind.i64 (csplit0F (FloatKind.nearest FloatKind.f64 (cjoin0F Y M D ho mi S W J)))), (Go.Value.int IntKind.i64 (csplit1F (FloatKind.nearest FloatKind.f64 (cjoin0F Y M D ho mi S W J)))), (Go.Value.int IntKind.i64 (csplit2F (FloatKind.nearest FloatKind.f64 (cjoin0F Y M D ho mi S W J)))), (Go.Value.int IntKind.i64 (csplit3F (FloatKind.nearest FloatKind.f64 (cjoin0F Y M D ho mi S W J)))), (Go.Value.int IntKind.i64 (csplit4F (FloatKind.nearest FloatKind.f64 (cjoin0F Y M D ho mi S W J)))), (Go.Value.float FloatKind.f64 (csplit5F (FloatKind.nearest FloatKind.f64 (cjoin0F Y M D ho mi S W J)))), (Go.Value.int IntKind.i64 (csplit6F (FloatKind.nearest FloatKind.f64 (cjoin0F Y M D ho mi S W J)))), (Go.Value.int IntKind.i64 (csplit7F (FloatKind.nearest FloatKind.f64 (cjoin0F Y M D ho mi S W J)))), (Go.Value.int IntKind.i64 (cjoin0F Y M D ho mi S W J)), (Go.Value.int IntKind.i64 (cwks0F (cday0F (csplit0F (FloatKind.nearest FloatKind.f64 (cjoin0F Y M D ho mi S W J))) (csplit1F (FloatKind.nearest FloatKind.f64 (cjoin0F Y M D ho mi S W J))) (csplit2F (FloatKind.nearest FloatKind.f64 (cjoin0F Y M D ho mi S W J)))))), (Go.Value.int IntKind.i64 (cwks1F (cday0F (csplit0F (FloatKind.nearest FloatKind.f64 (cjoin0F Y M D ho mi S W J))) (csplit1F (FloatKind.nearest FloatKind.f64 (cjoin0F Y M D ho mi S W J))) (csplit2F (FloatKind.nearest FloatKind.f64 (cjoin0F Y M D ho mi S W J)))))), (Go.Value.int IntKind.i64 (cwks2F (cday0F (csplit0F (FloatKind.nearest FloatKind.f64 (cjoin0F Y M D ho mi S W J))) (csplit1F (FloatKind.nearest FloatKind.f64 (cjoin0F Y M D ho mi S W J))) (csplit2F (FloatKind.nearest FloatKind.f64 (cjoin0F Y M D ho mi S W J)))))), (Go.Value.int IntKind.i64 (cwks3F (cday0F (csplit0F (FloatKind.nearest FloatKind.f64 (cjoin0F Y M D ho mi S W J))) (csplit1F (FloatKind.nearest FloatKind.f64 (cjoin0F Y M D ho mi S W J))) (csplit2F (FloatKind.nearest FloatKind.f64 (cjoin0F Y M D ho mi S W J))))))]), (Go.Value.bool true)]), H', nx') :=
  orc_sel ((hkW laG lpE)) (m := [true, true, true, true, true, true, true, true, true, true, true, true, true, true, true, true, true, true, true, true, true, true, true, true, true, true, true, true, true, true, true, true, false, true, false, true, true, true, true, true]) (l := [((cjoinOkF Y M D ho mi S W J) == true), (((cjoin1F Y M D ho mi S W J) != 0) == false), ((csplitOkF (FloatKind.nearest FloatKind.f64 (cjoin0F Y M D ho mi S W J))) == true), (((csplit0F (FloatKind.nearest FloatKind.f64 (cjoin0F Y M D ho mi S W J))) != Y) == false), (((csplit0F (FloatKind.nearest FloatKind.f64 (cjoin0F Y M D ho mi S W J))) != Y) == false), (((csplit0F (FloatKind.nearest FloatKind.f64 (cjoin0F Y M D ho mi S W J))) != Y) == false), (((csplit0F (FloatKind.nearest FloatKind.f64 (cjoin0F Y M D ho mi S W J))) != Y) == false), (((csplit0F (FloatKind.nearest FloatKind.f64 (cjoin0F Y M D ho mi S W J))) != Y) == false), (((csplit0F (FloatKind.nearest FloatKind.f64 (cjoin0F Y M D ho mi S W J))) != Y) == false), (((csplit1F (FloatKind.nearest FloatKind.f64 (cjoin0F Y M D ho mi S W J))) != M) == false), (((csplit1F (FloatKind.nearest FloatKind.f64 (cjoin0F Y M D ho mi S W J))) != M) == false), (((csplit1F (FloatKind.nearest FloatKind.f64 (cjoin0F Y M D ho mi S W J))) != M) == false), (((csplit1F (FloatKind.nearest FloatKind.f64 (cjoin0F Y M D ho mi S W J))) != M) == false), (((csplit1F (FloatKind.nearest FloatKind.f64 (cjoin0F Y M D ho mi S W J))) != M) == false), (((csplit1F (FloatKind.nearest FloatKind.f64 (cjoin0F Y M D ho mi S W J))) != M) == false), (((csplit2F (FloatKind.nearest FloatKind.f64 (cjoin0F Y M D ho mi S W J))) != D) == false), (((csplit2F (FloatKind.nearest FloatKind.f64 (cjoin0F Y M D ho mi S W J))) != D) == false), (((csplit2F (FloatKind.nearest FloatKind.f64 (cjoin0F Y M D ho mi S W J))) != D) == false), (((csplit2F (FloatKind.nearest FloatKind.f64 (cjoin0F Y M D ho mi S W J))) != D) == false), (((csplit2F (FloatKind.nearest FloatKind.f64 (cjoin0F Y M D ho mi S W J))) != D) == false), (((csplit2F (FloatKind.nearest FloatKind.f64 (cjoin0F Y M D ho mi S W J))) != D) == false), (((csplit3F (FloatKind.nearest FloatKind.f64 (cjoin0F Y M D ho mi S W J))) != ho) == false), (((csplit3F (FloatKind.nearest FloatKind.f64 (cjoin0F Y M D ho mi S W J))) != ho) == false), (((csplit3F (FloatKind.nearest FloatKind.f64 (cjoin0F Y M D ho mi S W J))) != ho) == false), (((csplit3F (FloatKind.nearest FloatKind.f64 (cjoin0F Y M D ho mi S W J))) != ho) == false), (((csplit3F (FloatKind.nearest FloatKind.f64 (cjoin0F Y M D ho mi S W J))) != ho) == false), (((csplit3F (FloatKind.nearest FloatKind.f64 (cjoin0F Y M D ho mi S W J))) != ho) == false), (((csplit4F (FloatKind.nearest FloatKind.f64 (cjoin0F Y M D ho mi S W J))) != mi) == false), (((csplit4F (FloatKind.nearest FloatKind.f64 (cjoin0F Y M D ho mi S W J))) != mi) == false), (((csplit4F (FloatKind.nearest FloatKind.f64 (cjoin0F Y M D ho mi S W J))) != mi) == false), (((csplit4F (FloatKind.nearest FloatKind.f64 (cjoin0F Y M D ho mi S W J))) != mi) == false), (((csplit4F (FloatKind.nearest FloatKind.f64 (cjoin0F Y M D ho mi S W J))) != mi) == false), (Go.Ev.froundOk S), (((csplit4F (FloatKind.nearest FloatKind.f64 (cjoin0F Y M D ho mi S W J))) != mi) == false), (((csplit4F (FloatKind.nearest FloatKind.f64 (cjoin0F Y M D ho mi S W J))) != mi) == false), (((Ieee.Format.order (FloatKind.format FloatKind.f64) (csplit5F (FloatKind.nearest FloatKind.f64 (cjoin0F Y M D ho mi S W J))) (Go.Ev.fround Ieee.Toward.down S)) != (Option.some Ordering.eq)) == false), ((cdayOkF (csplit0F (FloatKind.nearest FloatKind.f64 (cjoin0F Y M D ho mi S W J))) (csplit1F (FloatKind.nearest FloatKind.f64 (cjoin0F Y M D ho mi S W J))) (csplit2F (FloatKind.nearest FloatKind.f64 (cjoin0F Y M D ho mi S W J)))) == true), ((cwksOkF (cday0F (csplit0F (FloatKind.nearest FloatKind.f64 (cjoin0F Y M D ho mi S W J))) (csplit1F (FloatKind.nearest FloatKind.f64 (cjoin0F Y M D ho mi S W J))) (csplit2F (FloatKind.nearest FloatKind.f64 (cjoin0F Y M D ho mi S W J))))) == true)]) (p := [false, false, false, false, false, false, false, false, false, false, false, false, false, false, false, false, false, false, false, false, false, false, false, false, false, false, false, false, false, false, true, false, false, false]) (by kernel_rfl) (by kernel_rfl) (by kernel_rfl) (forall_cons h1 (forall_cons h2 (forall_cons h3 (forall_cons h4 (forall_cons h4 (forall_cons h4 (forall_cons h4 (forall_cons h4 (forall_cons h4 (forall_cons h5 (forall_cons h5 (forall_cons h5 (forall_cons h5 (forall_cons h5 (forall_cons h5 (forall_cons h6 (forall_cons h6 (forall_cons h6 (forall_cons h6 (forall_cons h6 (forall_cons h6 (forall_cons h7 (forall_cons h7 (forall_cons h7 (forall_cons h7 (forall_cons h7 (forall_cons h7 (forall_cons h8 (forall_cons h8 (forall_cons h8 (forall_cons h8 (forall_cons h8 (forall_cons h9 (forall_cons h8 (forall_cons h8 (forall_cons h10 (forall_cons h11 (forall_cons h12 forall_nil))))))))))))))))))))))))))))))))))))))
def norm0F (Y : Int) (M : Int) (D : Int) (ho : Int) (mi : Int) (S : Nat) (W : Int) (J : Int) : Int := (csplit0F (FloatKind.nearest FloatKind.f64 (cjoin0F Y M D ho mi S W J)))
def norm1F (Y : Int) (M : Int) (D : Int) (ho : Int) (mi : Int) (S : Nat) (W : Int) (J : Int) : Int := (csplit1F (FloatKind.nearest FloatKind.f64 (cjoin0F Y M D ho mi S W J)))
def norm2F (Y : Int) (M : Int) (D : Int) (ho : Int) (mi : Int) (S : Nat) (W : Int) (J : Int) : Int := (csplit2F (FloatKind.nearest FloatKind.f64 (cjoin0F Y M D ho mi S W J)))
def norm3F (Y : Int) (M : Int) (D : Int) (ho : Int) (mi : Int) (S : Nat) (W : Int) (J : Int) : Int := (csplit3F (FloatKind.nearest FloatKind.f64 (cjoin0F Y M D ho mi S W J)))
def norm4F (Y : Int) (M : Int) (D : Int) (ho : Int) (mi : Int) (S : Nat) (W : Int) (J : Int) : Int := (csplit4F (FloatKind.nearest FloatKind.f64 (cjoin0F Y M D ho mi S W J)))
def norm5F (Y : Int) (M : Int) (D : Int) (ho : Int) (mi : Int) (S : Nat) (W : Int) (J : Int) : Nat := (csplit5F (FloatKind.nearest FloatKind.f64 (cjoin0F Y M D ho mi S W J)))
def norm6F (Y : Int) (M : Int) (D : Int) (ho : Int) (mi : Int) (S : Nat) (W : Int) (J : Int) : Int := (csplit6F (FloatKind.nearest FloatKind.f64 (cjoin0F Y M D ho mi S W J)))
def norm7F (Y : Int) (M : Int) (D : Int) (ho : Int) (mi : Int) (S : Nat) (W : Int) (J : Int) : Int := (csplit7F (FloatKind.nearest FloatKind.f64 (cjoin0F Y M D ho mi S W J)))
def norm8F (Y : Int) (M : Int) (D : Int) (ho : Int) (mi : Int) (S : Nat) (W : Int) (J : Int) : Int := (cjoin0F Y M D ho mi S W J)
def norm9F (Y : Int) (M : Int) (D : Int) (ho : Int) (mi : Int) (S : Nat) (W : Int) (J : Int) : Int := (cwks0F (cday0F (csplit0F (FloatKind.nearest FloatKind.f64 (cjoin0F Y M D ho mi S W J))) (csplit1F (FloatKind.nearest FloatKind.f64 (cjoin0F Y M D ho mi S W J))) (csplit2F (FloatKind.nearest FloatKind.f64 (cjoin0F Y M D ho mi S W J)))))
def norm10F (Y : Int) (M : Int) (D : Int) (ho : Int) (mi : Int) (S : Nat) (W : Int) (J : Int) : Int := (cwks1F (cday0F (csplit0F (FloatKind.nearest FloatKind.f64 (cjoin0F Y M D ho mi S W J))) (csplit1F (FloatKind.nearest FloatKind.f64 (cjoin0F Y M D ho mi S W J))) (csplit2F (FloatKind.nearest FloatKind.f64 (cjoin0F Y M D ho mi S W J)))))
def norm11F (Y : Int) (M : Int) (D : Int) (ho : Int) (mi : Int) (S : Nat) (W : Int) (J : Int) : Int := (cwks2F (cday0F (csplit0F (FloatKind.nearest FloatKind.f64 (cjoin0F Y M D ho mi S W J))) (csplit1F (FloatKind.nearest FloatKind.f64 (cjoin0F Y M D ho mi S W J))) (csplit2F (FloatKind.nearest FloatKind.f64 (cjoin0F Y M D ho mi S W J)))))
def norm12F (Y : Int) (M : Int) (D : Int) (ho : Int) (mi : Int) (S : Nat) (W : Int) (J : Int) : Int := (cwks3F (cday0F (csplit0F (FloatKind.nearest FloatKind.f64 (cjoin0F Y M D ho mi S W J))) (csplit1F (FloatKind.nearest FloatKind.f64 (cjoin0F Y M D ho mi S W J))) (csplit2F (FloatKind.nearest FloatKind.f64 (cjoin0F Y M D ho mi S W J)))))
def norm13F (Y : Int) (M : Int) (D : Int) (ho : Int) (mi : Int) (S : Nat) (W : Int) (J : Int) : Bool := true
def normOkF (Y : Int) (M : Int) (D : Int) (ho : Int) (mi : Int) (S : Nat) (W : Int) (J : Int) : Bool := (((cjoinOkF Y M D ho mi S W J)) && ((!(((cjoin1F Y M D ho mi S W J) != 0))) && (((csplitOkF (FloatKind.nearest FloatKind.f64 (cjoin0F Y M D ho mi S W J)))) && ((!(((csplit0F (FloatKind.nearest FloatKind.f64 (cjoin0F Y M D ho mi S W J))) != Y))) && ((!(((csplit1F (FloatKind.nearest FloatKind.f64 (cjoin0F Y M D ho mi S W J))) != M))) && ((!(((csplit2F (FloatKind.nearest FloatKind.f64 (cjoin0F Y M D ho mi S W J))) != D))) && ((!(((csplit3F (FloatKind.nearest FloatKind.f64 (cjoin0F Y M D ho mi S W J))) != ho))) && ((!(((csplit4F (FloatKind.nearest FloatKind.f64 (cjoin0F Y M D ho mi S W J))) != mi))) && (((Go.Ev.froundOk S)) && ((!(((Ieee.Format.order (FloatKind.format FloatKind.f64) (csplit5F (FloatKind.nearest FloatKind.f64 (cjoin0F Y M D ho mi S W J))) (Go.Ev.fround Ieee.Toward.down S)) != (Option.some Ordering.eq)))) && (((cdayOkF (csplit0F (FloatKind.nearest FloatKind.f64 (cjoin0F Y M D ho mi S W J))) (csplit1F (FloatKind.nearest FloatKind.f64 (cjoin0F Y M D ho mi S W J))) (csplit2F (FloatKind.nearest FloatKind.f64 (cjoin0F Y M D ho mi S W J))))) && (((cwksOkF (cday0F (csplit0F (FloatKind.nearest FloatKind.f64 (cjoin0F Y M D ho mi S W J))) (csplit1F (FloatKind.nearest FloatKind.f64 (cjoin0F Y M D ho mi S W J))) (csplit2F (FloatKind.nearest FloatKind.f64 (cjoin0F Y M D ho mi S W J)))))) && true))))))))))))
theorem norm_ev (Y : Int) (M : Int) (D : Int) (ho : Int) (mi : Int) (S : Nat) (W : Int) (J : Int) (hok : normOkF Y M D ho mi S W J = true) : ∃ H' nx', evFunc (withFns cx0 laG lpE) 30 33 #[.agg #[.int .i64 Y, .int .i64 M, .int .i64 D, .int .i64 ho, .int .i64 mi, .float .f64 S, .int .i64 W, .int .i64 J]] H0 12 = some ((Go.Value.tuple #[(Go.Value.agg #[(Go.Value.int IntKind.i64 (norm0F Y M D ho mi S W J)), (Go.Value.int IntKind.i64 (norm1F Y M D ho mi S W J)), (Go.Value.int IntKind.i64 (norm2F Y M D ho mi S W J)), (Go.Value.int IntKind.i64 (norm3F Y M D ho mi S W J)), (Go.Value.int IntKind.i64 (norm4F Y M D ho mi S W J)), (Go.Value.float FloatKind.f64 (norm5F Y M D ho mi S W J)), (Go.Value.int IntKind.i64 (norm6F Y M D ho mi S W J)), (Go.Value.int IntKind.i64 (norm7F Y M D ho mi S W J)), (Go.Value.int IntKind.i64 (norm8F Y M D ho mi S W J)), (Go.Value.int IntKind.i64 (norm9F Y M D ho mi S W J)), (Go.Value.int IntKind.i64 (norm10F Y M D ho mi S W J)), (Go.Value.int IntKind.i64 (norm11F Y M D ho mi S W J)), (Go.Value.int IntKind.i64 (norm12F Y M D ho mi S W J))]), (Go.Value.bool (norm13F Y M D ho mi S W J))]), H', nx') := by
  unfold normOkF at hok
  have c0_ : ((cjoinOkF Y M D ho mi S W J)) = true := by
    simp only [Bool.and_eq_true, Bool.not_eq_true', cond_true, cond_false] at hok
    first | exact hok.1 | (simp only [Bool.not_eq_true']; exact hok.1)
  replace hok := by
    simp only [c0_, Bool.not_true, Bool.not_false, Bool.true_and, cond_true, cond_false] at hok
    exact hok
  have c1_ : (((cjoin1F Y M D ho mi S W J) != 0)) = false := by
    simp only [c0_, Bool.and_eq_true, Bool.not_eq_true', cond_true, cond_false] at hok
    first | exact hok.1 | (simp only [Bool.not_eq_true']; exact hok.1)
  replace hok := by
    simp only [c0_, c1_, Bool.not_true, Bool.not_false, Bool.true_and, cond_true, cond_false] at hok
    exact hok
  have c2_ : ((csplitOkF (FloatKind.nearest FloatKind.f64 (cjoin0F Y M D ho mi S W J)))) = true := by
    simp only [c0_, c1_, Bool.and_eq_true, Bool.not_eq_true', cond_true, cond_false] at hok
    first | exact hok.1 | (simp only [Bool.not_eq_true']; exact hok.1)
  replace hok := by
    simp only [c0_, c1_, c2_, Bool.not_true, Bool.not_false, Bool.true_and, cond_true, cond_false] at hok
    exact hok
  have c3_ : (((csplit0F (FloatKind.nearest FloatKind.f64 (cjoin0F Y M D ho mi S W J))) != Y)) = false := by
    simp only [c0_, c1_, c2_, Bool.and_eq_true, Bool.not_eq_true', cond_true, cond_false] at hok
    first | exact hok.1 | (simp only [Bool.not_eq_true']; exact hok.1)
  replace hok := by
    simp only [c0_, c1_, c2_, c3_, Bool.not_true, Bool.not_false, Bool.true_and, cond_true, cond_false] at hok
    exact hok
  have c4_ : (((csplit1F (FloatKind.nearest FloatKind.f64 (cjoin0F Y M D ho mi S W J))) != M)) = false := by
    simp only [c0_, c1_, c2_, c3_, Bool.and_eq_true, Bool.not_eq_true', cond_true, cond_false] at hok
    first | exact hok.1 | (simp only [Bool.not_eq_true']; exact hok.1)
  replace hok := by
    simp only [c0_, c1_, c2_, c3_, c4_, Bool.not_true, Bool.not_false, Bool.true_and, cond_true, cond_false] at hok
    exact hok
  have c5_ : (((csplit2F (FloatKind.nearest FloatKind.f64 (cjoin0F Y M D ho mi S W J))) != D)) = false := by
    simp only [c0_, c1_, c2_, c3_, c4_, Bool.and_eq_true, Bool.not_eq_true', cond_true, cond_false] at hok
    first | exact hok.1 | (simp only [Bool.not_eq_true']; exact hok.1)
  replace hok := by
    simp only [c0_, c1_, c2_, c3_, c4_, c5_, Bool.not_true, Bool.not_false, Bool.true_and, cond_true, cond_false] at hok
    exact hok
  have c6_ : (((csplit3F (FloatKind.nearest FloatKind.f64 (cjoin0F Y M D ho mi S W J))) != ho)) = false := by
    simp only [c0_, c1_, c2_, c3_, c4_, c5_, Bool.and_eq_true, Bool.not_eq_true', cond_true, cond_false] at hok
    first | exact hok.1 | (simp only [Bool.not_eq_true']; exact hok.1)
  replace hok := by
    simp only [c0_, c1_, c2_, c3_, c4_, c5_, c6_, Bool.not_true, Bool.not_false, Bool.true_and, cond_true, cond_false] at hok
    exact hok
  have c7_ : (((csplit4F (FloatKind.nearest FloatKind.f64 (cjoin0F Y M D ho mi S W J))) != mi)) = false := by
    simp only [c0_, c1_, c2_, c3_, c4_, c5_, c6_, Bool.and_eq_true, Bool.not_eq_true', cond_true, cond_false] at hok
    first | exact hok.1 | (simp only [Bool.not_eq_true']; exact hok.1)
  replace hok := by
    simp only [c0_, c1_, c2_, c3_, c4_, c5_, c6_, c7_, Bool.not_true, Bool.not_false, Bool.true_and, cond_true, cond_false] at hok
    exact hok
  have c8_ : ((Go.Ev.froundOk S)) = true := by
    simp only [c0_, c1_, c2_, c3_, c4_, c5_, c6_, c7_, Bool.and_eq_true, Bool.not_eq_true', cond_true, cond_false] at hok
    first | exact hok.1 | (simp only [Bool.not_eq_true']; exact hok.1)
  replace hok := by
    simp only [c0_, c1_, c2_, c3_, c4_, c5_, c6_, c7_, c8_, Bool.not_true, Bool.not_false, Bool.true_and, cond_true, cond_false] at hok
    exact hok
  have c9_ : (((Ieee.Format.order (FloatKind.format FloatKind.f64) (csplit5F (FloatKind.nearest FloatKind.f64 (cjoin0F Y M D ho mi S W J))) (Go.Ev.fround Ieee.Toward.down S)) != (Option.some Ordering.eq))) = false := by
    simp only [c0_, c1_, c2_, c3_, c4_, c5_, c6_, c7_, c8_, Bool.and_eq_true, Bool.not_eq_true', cond_true, cond_false] at hok
    first | exact hok.1 | (simp only [Bool.not_eq_true']; exact hok.1)
  replace hok := by
    simp only [c0_, c1_, c2_, c3_, c4_, c5_, c6_, c7_, c8_, c9_, Bool.not_true, Bool.not_false, Bool.true_and, cond_true, cond_false] at hok
    exact hok
  have c10_ : ((cdayOkF (csplit0F (FloatKind.nearest FloatKind.f64 (cjoin0F Y M D ho mi S W J))) (csplit1F (FloatKind.nearest FloatKind.f64 (cjoin0F Y M D ho mi S W J))) (csplit2F (FloatKind.nearest FloatKind.f64 (cjoin0F Y M D ho mi S W J))))) = true := by
    simp only [c0_, c1_, c2_, c3_, c4_, c5_, c6_, c7_, c8_, c9_, Bool.and_eq_true, Bool.not_eq_true', cond_true, cond_false] at hok
    first | exact hok.1 | (simp only [Bool.not_eq_true']; exact hok.1)
  replace hok := by
    simp only [c0_, c1_, c2_, c3_, c4_, c5_, c6_, c7_, c8_, c9_, c10_, Bool.not_true, Bool.not_false, Bool.true_and, cond_true, cond_false] at hok
    exact hok
  have c11_ : ((cwksOkF (cday0F (csplit0F (FloatKind.nearest FloatKind.f64 (cjoin0F Y M D ho mi S W J))) (csplit1F (FloatKind.nearest FloatKind.f64 (cjoin0F Y M D ho mi S W J))) (csplit2F (FloatKind.nearest FloatKind.f64 (cjoin0F Y M D ho mi S W J)))))) = true := by
    simp only [c0_, c1_, c2_, c3_, c4_, c5_, c6_, c7_, c8_, c9_, c10_, Bool.and_eq_true, Bool.not_eq_true', cond_true, cond_false] at hok
    first | exact hok.1 | (simp only [Bool.not_eq_true']; exact hok.1)
  replace hok := by
    simp only [c0_, c1_, c2_, c3_, c4_, c5_, c6_, c7_, c8_, c9_, c10_, c11_, Bool.not_true, Bool.not_false, Bool.true_and, cond_true, cond_false] at hok
    exact hok
  unfold norm0F norm1F norm2F norm3F norm4F norm5F norm6F norm7F norm8F norm9F norm10F norm11F norm12F norm13F
  try simp only [c0_, c1_, c2_, c3_, c4_, c5_, c6_, c7_, c8_, c9_, c10_, c11_, cond_true, cond_false]
  exact norm_p0 Y M D ho mi S W J (by rw [c0_]; rfl) (by rw [c1_]; rfl) (by rw [c2_]; rfl) (by rw [c3_]; rfl) (by rw [c4_]; rfl) (by rw [c5_]; rfl) (by rw [c6_]; rfl) (by rw [c7_]; rfl) c8_ (by rw [c9_]; rfl) (by rw [c10_]; rfl) (by rw [c11_]; rfl)
def normV (args : Array Value) : Option Value := match args.toList with
  | [.agg a0_] => match a0_.toList with | [.int .i64 Y, .int .i64 M, .int .i64 D, .int .i64 ho, .int .i64 mi, .float .f64 S, .int .i64 W, .int .i64 J] => some (Go.Value.tuple #[(Go.Value.agg #[(Go.Value.int IntKind.i64 (norm0F Y M D ho mi S W J)), (Go.Value.int IntKind.i64 (norm1F Y M D ho mi S W J)), (Go.Value.int IntKind.i64 (norm2F Y M D ho mi S W J)), (Go.Value.int IntKind.i64 (norm3F Y M D ho mi S W J)), (Go.Value.int IntKind.i64 (norm4F Y M D ho mi S W J)), (Go.Value.float FloatKind.f64 (norm5F Y M D ho mi S W J)), (Go.Value.int IntKind.i64 (norm6F Y M D ho mi S W J)), (Go.Value.int IntKind.i64 (norm7F Y M D ho mi S W J)), (Go.Value.int IntKind.i64 (norm8F Y M D ho mi S W J)), (Go.Value.int IntKind.i64 (norm9F Y M D ho mi S W J)), (Go.Value.int IntKind.i64 (norm10F Y M D ho mi S W J)), (Go.Value.int IntKind.i64 (norm11F Y M D ho mi S W J)), (Go.Value.int IntKind.i64 (norm12F Y M D ho mi S W J))]), (Go.Value.bool (norm13F Y M D ho mi S W J))]) | _ => none
  | _ => none
def normK (args : Array Value) : Bool := match args.toList with
  | [.agg a0_] => match a0_.toList with | [.int .i64 Y, .int .i64 M, .int .i64 D, .int .i64 ho, .int .i64 mi, .float .f64 S, .int .i64 W, .int .i64 J] => (normOkF Y M D ho mi S W J == true) | _ => false
  | _ => false
def normA : AFn := { f := 33, val := normV, ok := normK }
theorem norm_sound : PSound cx0 normA.pfn := psound_startW laG_sound lpE_sound fun args v h => by
  obtain ⟨hv, hk⟩ := afn_some h
  replace hv : normV args = some v := hv
  replace hk : normK args = true := hk
  unfold normV at hv
  split at hv
  · rename_i a0_ hx
    have ha := args_list hx
    subst ha
    split at hv
    · rename_i Y M D ho mi S W J hx0
      have ha0 := args_list hx0
      subst ha0
      cases hv
      have hok : normOkF Y M D ho mi S W J = true := by simpa [normK] using hk
      exact ⟨rfl, rfl, 30, norm_ev Y M D ho mi S W J hok⟩
    · cases hv
  · cases hv
end Go.Proofs.YthopphfehgdocaaGreatDoor
