import Derived.Test.YthopphfehgdocaaGreatDoorRef3
namespace Go.Proofs.YthopphfehgdocaaGreatDoor
open Go Go.RowKit Go.Ev Go.Proofs Go.Shelf
set_option linter.unusedSimpArgs false
set_option linter.unusedVariables false

theorem csplit_p0 (x : Nat) (h1 : (Go.Ev.froundOk x) = true) (h2 : (((Ieee.Format.order (FloatKind.format FloatKind.f64) (Go.Ev.fround Ieee.Toward.down x) (Go.Ev.fround Ieee.Toward.down x)) != (Option.some Ordering.eq)) == false) = true) (h3 : (((Ieee.Format.order (FloatKind.format FloatKind.f64) (Int.toNat (IntKind.u64.wrap ((((BitVec.toNat ((BitVec.ofInt 64 ((((Go.Ev.fround Ieee.Toward.down x) : Nat) : Int))) &&& (~~~(BitVec.ofInt 64 9223372036854775808)))) : Nat) : Int)))) 4786511204640096256) == (Option.some Ordering.gt)) == false) = true) (h4 : (Go.Ev.f2iOk FloatKind.f64 (Go.Ev.fround Ieee.Toward.down x) IntKind.i64) = true) (h5 : (((reF (IntKind.i64.wrap ((Go.Ev.f2i FloatKind.f64 (Go.Ev.fround Ieee.Toward.down x)) / 86400))) != 0) == false) = true) (h6 : (Option.isSome (Ieee.Format.sub (FloatKind.format FloatKind.f64) x (Go.Ev.fround Ieee.Toward.down x))) = true) (h7 : (Option.isSome (Ieee.Format.add (FloatKind.format FloatKind.f64) (FloatKind.nearest FloatKind.f64 (Int.tmod ((Go.Ev.f2i FloatKind.f64 (Go.Ev.fround Ieee.Toward.down x)) % 86400) 60)) (Go.Ev.fval (Ieee.Format.sub (FloatKind.format FloatKind.f64) x (Go.Ev.fround Ieee.Toward.down x))))) = true) (h8 : ((numOkF (ryF (IntKind.i64.wrap ((Go.Ev.f2i FloatKind.f64 (Go.Ev.fround Ieee.Toward.down x)) / 86400))) 0 1) == true) = true) : ∃ H' nx', evFunc (withFns cx0 laE lpE) 30 16 #[.float .f64 x] H0 12 = some ((Go.Value.tuple #[(Go.Value.agg #[(Go.Value.int IntKind.i64 (ryF (IntKind.i64.wrap ((Go.Ev.f2i FloatKind.f64 (Go.Ev.fround Ieee.Toward.down x)) / 86400)))), (Go.Value.int IntKind.i64 (rmF (IntKind.i64.wrap ((Go.Ev.f2i FloatKind.f64 (Go.Ev.fround Ieee.Toward.down x)) / 86400)))), (Go.Value.int IntKind.i64 (rdF (IntKind.i64.wrap ((Go.Ev.f2i FloatKind.f64 (Go.Ev.fround Ieee.Toward.down x)) / 86400)))), (Go.Value.int IntKind.i64 (IntKind.i64.wrap (Int.tdiv ((Go.Ev.f2i FloatKind.f64 (Go.Ev.fround Ieee.Toward.down x)) % 86400) 3600))), (Go.Value.int IntKind.i64 (Int.tmod (IntKind.i64.wrap (Int.tdiv ((Go.Ev.f2i FloatKind.f64 (Go.Ev.fround Ieee.Toward.down x)) % 86400) 60)) 60)), (Go.Value.float FloatKind.f64 (Go.Ev.fval (Ieee.Format.add (FloatKind.format FloatKind.f64) (FloatKind.nearest FloatKind.f64 (Int.tmod ((Go.Ev.f2i FloatKind.f64 (Go.Ev.fround Ieee.Toward.down x)) % 86400) 60)) (Go.Ev.fval (Ieee.Format.sub (FloatKind.format FloatKind.f64) x (Go.Ev.fround Ieee.Toward.down x)))))), (Go.Value.int IntKind.i64 (wdF (IntKind.i64.wrap ((Go.Ev.f2i FloatKind.f64 (Go.Ev.fround Ieee.Toward.down x)) / 86400)))), (Go.Value.int IntKind.i64 (IntKind.i64.wrap ((IntKind.i64.wrap ((Go.Ev.f2i FloatKind.f64 (Go.Ev.fround Ieee.Toward.down x)) / 86400)) - (numdF (ryF (IntKind.i64.wrap ((Go.Ev.f2i FloatKind.f64 (Go.Ev.fround Ieee.Toward.down x)) / 86400))) 0 1))))]), (Go.Value.int IntKind.i64 0)]), H', nx') :=
  orc_sel ((hkW laE lpE)) (m := [false, true, true, true, true, true, true, true, true, false, false, false, false, true, true, true]) (l := [(Go.Ev.froundOk x), (((Ieee.Format.order (FloatKind.format FloatKind.f64) (Go.Ev.fround Ieee.Toward.down x) (Go.Ev.fround Ieee.Toward.down x)) != (Option.some Ordering.eq)) == false), (((Ieee.Format.order (FloatKind.format FloatKind.f64) (Go.Ev.fround Ieee.Toward.down x) (Go.Ev.fround Ieee.Toward.down x)) != (Option.some Ordering.eq)) == false), (((Ieee.Format.order (FloatKind.format FloatKind.f64) (Go.Ev.fround Ieee.Toward.down x) (Go.Ev.fround Ieee.Toward.down x)) != (Option.some Ordering.eq)) == false), (((Ieee.Format.order (FloatKind.format FloatKind.f64) (Go.Ev.fround Ieee.Toward.down x) (Go.Ev.fround Ieee.Toward.down x)) != (Option.some Ordering.eq)) == false), (((Ieee.Format.order (FloatKind.format FloatKind.f64) (Int.toNat (IntKind.u64.wrap ((((BitVec.toNat ((BitVec.ofInt 64 ((((Go.Ev.fround Ieee.Toward.down x) : Nat) : Int))) &&& (~~~(BitVec.ofInt 64 9223372036854775808)))) : Nat) : Int)))) 4786511204640096256) == (Option.some Ordering.gt)) == false), (Go.Ev.f2iOk FloatKind.f64 (Go.Ev.fround Ieee.Toward.down x) IntKind.i64), (((reF (IntKind.i64.wrap ((Go.Ev.f2i FloatKind.f64 (Go.Ev.fround Ieee.Toward.down x)) / 86400))) != 0) == false), (Option.isSome (Ieee.Format.sub (FloatKind.format FloatKind.f64) x (Go.Ev.fround Ieee.Toward.down x))), (Option.isSome (Ieee.Format.add (FloatKind.format FloatKind.f64) (FloatKind.nearest FloatKind.f64 (Int.tmod ((Go.Ev.f2i FloatKind.f64 (Go.Ev.fround Ieee.Toward.down x)) % 86400) 60)) (Go.Ev.fval (Ieee.Format.sub (FloatKind.format FloatKind.f64) x (Go.Ev.fround Ieee.Toward.down x))))), ((numOkF (ryF (IntKind.i64.wrap ((Go.Ev.f2i FloatKind.f64 (Go.Ev.fround Ieee.Toward.down x)) / 86400))) 0 1) == true)]) (p := [true, false, false, false, false, false, false]) (by kernel_rfl) (by kernel_rfl) (by kernel_rfl) (forall_cons h1 (forall_cons h2 (forall_cons h2 (forall_cons h2 (forall_cons h2 (forall_cons h3 (forall_cons h4 (forall_cons h5 (forall_cons h6 (forall_cons h7 (forall_cons h8 forall_nil)))))))))))
def csplit0F (x : Nat) : Int := (ryF (IntKind.i64.wrap ((Go.Ev.f2i FloatKind.f64 (Go.Ev.fround Ieee.Toward.down x)) / 86400)))
def csplit1F (x : Nat) : Int := (rmF (IntKind.i64.wrap ((Go.Ev.f2i FloatKind.f64 (Go.Ev.fround Ieee.Toward.down x)) / 86400)))
def csplit2F (x : Nat) : Int := (rdF (IntKind.i64.wrap ((Go.Ev.f2i FloatKind.f64 (Go.Ev.fround Ieee.Toward.down x)) / 86400)))
def csplit3F (x : Nat) : Int := (IntKind.i64.wrap (Int.tdiv ((Go.Ev.f2i FloatKind.f64 (Go.Ev.fround Ieee.Toward.down x)) % 86400) 3600))
def csplit4F (x : Nat) : Int := (Int.tmod (IntKind.i64.wrap (Int.tdiv ((Go.Ev.f2i FloatKind.f64 (Go.Ev.fround Ieee.Toward.down x)) % 86400) 60)) 60)
def csplit5F (x : Nat) : Nat := (Go.Ev.fval (Ieee.Format.add (FloatKind.format FloatKind.f64) (FloatKind.nearest FloatKind.f64 (Int.tmod ((Go.Ev.f2i FloatKind.f64 (Go.Ev.fround Ieee.Toward.down x)) % 86400) 60)) (Go.Ev.fval (Ieee.Format.sub (FloatKind.format FloatKind.f64) x (Go.Ev.fround Ieee.Toward.down x)))))
def csplit6F (x : Nat) : Int := (wdF (IntKind.i64.wrap ((Go.Ev.f2i FloatKind.f64 (Go.Ev.fround Ieee.Toward.down x)) / 86400)))
def csplit7F (x : Nat) : Int := (IntKind.i64.wrap ((IntKind.i64.wrap ((Go.Ev.f2i FloatKind.f64 (Go.Ev.fround Ieee.Toward.down x)) / 86400)) - (numdF (ryF (IntKind.i64.wrap ((Go.Ev.f2i FloatKind.f64 (Go.Ev.fround Ieee.Toward.down x)) / 86400))) 0 1)))
def csplit8F (x : Nat) : Int := 0
def csplitOkF (x : Nat) : Bool := (((Go.Ev.froundOk x)) && ((!(((Ieee.Format.order (FloatKind.format FloatKind.f64) (Go.Ev.fround Ieee.Toward.down x) (Go.Ev.fround Ieee.Toward.down x)) != (Option.some Ordering.eq)))) && ((!(((Ieee.Format.order (FloatKind.format FloatKind.f64) (Int.toNat (IntKind.u64.wrap ((((BitVec.toNat ((BitVec.ofInt 64 ((((Go.Ev.fround Ieee.Toward.down x) : Nat) : Int))) &&& (~~~(BitVec.ofInt 64 9223372036854775808)))) : Nat) : Int)))) 4786511204640096256) == (Option.some Ordering.gt)))) && (((Go.Ev.f2iOk FloatKind.f64 (Go.Ev.fround Ieee.Toward.down x) IntKind.i64)) && ((!(((reF (IntKind.i64.wrap ((Go.Ev.f2i FloatKind.f64 (Go.Ev.fround Ieee.Toward.down x)) / 86400))) != 0))) && (((Option.isSome (Ieee.Format.sub (FloatKind.format FloatKind.f64) x (Go.Ev.fround Ieee.Toward.down x)))) && (((Option.isSome (Ieee.Format.add (FloatKind.format FloatKind.f64) (FloatKind.nearest FloatKind.f64 (Int.tmod ((Go.Ev.f2i FloatKind.f64 (Go.Ev.fround Ieee.Toward.down x)) % 86400) 60)) (Go.Ev.fval (Ieee.Format.sub (FloatKind.format FloatKind.f64) x (Go.Ev.fround Ieee.Toward.down x)))))) && (((numOkF (ryF (IntKind.i64.wrap ((Go.Ev.f2i FloatKind.f64 (Go.Ev.fround Ieee.Toward.down x)) / 86400))) 0 1)) && true))))))))
theorem csplit_ev (x : Nat) (hok : csplitOkF x = true) : ∃ H' nx', evFunc (withFns cx0 laE lpE) 30 16 #[.float .f64 x] H0 12 = some ((Go.Value.tuple #[(Go.Value.agg #[(Go.Value.int IntKind.i64 (csplit0F x)), (Go.Value.int IntKind.i64 (csplit1F x)), (Go.Value.int IntKind.i64 (csplit2F x)), (Go.Value.int IntKind.i64 (csplit3F x)), (Go.Value.int IntKind.i64 (csplit4F x)), (Go.Value.float FloatKind.f64 (csplit5F x)), (Go.Value.int IntKind.i64 (csplit6F x)), (Go.Value.int IntKind.i64 (csplit7F x))]), (Go.Value.int IntKind.i64 (csplit8F x))]), H', nx') := by
  unfold csplitOkF at hok
  have c0_ : ((Go.Ev.froundOk x)) = true := by
    simp only [Bool.and_eq_true, Bool.not_eq_true', cond_true, cond_false] at hok
    first | exact hok.1 | (simp only [Bool.not_eq_true']; exact hok.1)
  replace hok := by
    simp only [c0_, Bool.not_true, Bool.not_false, Bool.true_and, cond_true, cond_false] at hok
    exact hok
  have c1_ : (((Ieee.Format.order (FloatKind.format FloatKind.f64) (Go.Ev.fround Ieee.Toward.down x) (Go.Ev.fround Ieee.Toward.down x)) != (Option.some Ordering.eq))) = false := by
    simp only [c0_, Bool.and_eq_true, Bool.not_eq_true', cond_true, cond_false] at hok
    first | exact hok.1 | (simp only [Bool.not_eq_true']; exact hok.1)
  replace hok := by
    simp only [c0_, c1_, Bool.not_true, Bool.not_false, Bool.true_and, cond_true, cond_false] at hok
    exact hok
  have c2_ : (((Ieee.Format.order (FloatKind.format FloatKind.f64) (Int.toNat (IntKind.u64.wrap ((((BitVec.toNat ((BitVec.ofInt 64 ((((Go.Ev.fround Ieee.Toward.down x) : Nat) : Int))) &&& (~~~(BitVec.ofInt 64 9223372036854775808)))) : Nat) : Int)))) 4786511204640096256) == (Option.some Ordering.gt))) = false := by
    simp only [c0_, c1_, Bool.and_eq_true, Bool.not_eq_true', cond_true, cond_false] at hok
    first | exact hok.1 | (simp only [Bool.not_eq_true']; exact hok.1)
  replace hok := by
    simp only [c0_, c1_, c2_, Bool.not_true, Bool.not_false, Bool.true_and, cond_true, cond_false] at hok
    exact hok
  have c3_ : ((Go.Ev.f2iOk FloatKind.f64 (Go.Ev.fround Ieee.Toward.down x) IntKind.i64)) = true := by
    simp only [c0_, c1_, c2_, Bool.and_eq_true, Bool.not_eq_true', cond_true, cond_false] at hok
    first | exact hok.1 | (simp only [Bool.not_eq_true']; exact hok.1)
  replace hok := by
    simp only [c0_, c1_, c2_, c3_, Bool.not_true, Bool.not_false, Bool.true_and, cond_true, cond_false] at hok
    exact hok
  have c4_ : (((reF (IntKind.i64.wrap ((Go.Ev.f2i FloatKind.f64 (Go.Ev.fround Ieee.Toward.down x)) / 86400))) != 0)) = false := by
    simp only [c0_, c1_, c2_, c3_, Bool.and_eq_true, Bool.not_eq_true', cond_true, cond_false] at hok
    first | exact hok.1 | (simp only [Bool.not_eq_true']; exact hok.1)
  replace hok := by
    simp only [c0_, c1_, c2_, c3_, c4_, Bool.not_true, Bool.not_false, Bool.true_and, cond_true, cond_false] at hok
    exact hok
  have c5_ : ((Option.isSome (Ieee.Format.sub (FloatKind.format FloatKind.f64) x (Go.Ev.fround Ieee.Toward.down x)))) = true := by
    simp only [c0_, c1_, c2_, c3_, c4_, Bool.and_eq_true, Bool.not_eq_true', cond_true, cond_false] at hok
    first | exact hok.1 | (simp only [Bool.not_eq_true']; exact hok.1)
  replace hok := by
    simp only [c0_, c1_, c2_, c3_, c4_, c5_, Bool.not_true, Bool.not_false, Bool.true_and, cond_true, cond_false] at hok
    exact hok
  have c6_ : ((Option.isSome (Ieee.Format.add (FloatKind.format FloatKind.f64) (FloatKind.nearest FloatKind.f64 (Int.tmod ((Go.Ev.f2i FloatKind.f64 (Go.Ev.fround Ieee.Toward.down x)) % 86400) 60)) (Go.Ev.fval (Ieee.Format.sub (FloatKind.format FloatKind.f64) x (Go.Ev.fround Ieee.Toward.down x)))))) = true := by
    simp only [c0_, c1_, c2_, c3_, c4_, c5_, Bool.and_eq_true, Bool.not_eq_true', cond_true, cond_false] at hok
    first | exact hok.1 | (simp only [Bool.not_eq_true']; exact hok.1)
  replace hok := by
    simp only [c0_, c1_, c2_, c3_, c4_, c5_, c6_, Bool.not_true, Bool.not_false, Bool.true_and, cond_true, cond_false] at hok
    exact hok
  have c7_ : ((numOkF (ryF (IntKind.i64.wrap ((Go.Ev.f2i FloatKind.f64 (Go.Ev.fround Ieee.Toward.down x)) / 86400))) 0 1)) = true := by
    simp only [c0_, c1_, c2_, c3_, c4_, c5_, c6_, Bool.and_eq_true, Bool.not_eq_true', cond_true, cond_false] at hok
    first | exact hok.1 | (simp only [Bool.not_eq_true']; exact hok.1)
  replace hok := by
    simp only [c0_, c1_, c2_, c3_, c4_, c5_, c6_, c7_, Bool.not_true, Bool.not_false, Bool.true_and, cond_true, cond_false] at hok
    exact hok
  unfold csplit0F csplit1F csplit2F csplit3F csplit4F csplit5F csplit6F csplit7F csplit8F
  try simp only [c0_, c1_, c2_, c3_, c4_, c5_, c6_, c7_, cond_true, cond_false]
  exact csplit_p0 x c0_ (by rw [c1_]; rfl) (by rw [c2_]; rfl) c3_ (by rw [c4_]; rfl) c5_ c6_ (by rw [c7_]; rfl)
def csplitV (args : Array Value) : Option Value := match args.toList with
  | [.float .f64 x] => some (Go.Value.tuple #[(Go.Value.agg #[(Go.Value.int IntKind.i64 (csplit0F x)), (Go.Value.int IntKind.i64 (csplit1F x)), (Go.Value.int IntKind.i64 (csplit2F x)), (Go.Value.int IntKind.i64 (csplit3F x)), (Go.Value.int IntKind.i64 (csplit4F x)), (Go.Value.float FloatKind.f64 (csplit5F x)), (Go.Value.int IntKind.i64 (csplit6F x)), (Go.Value.int IntKind.i64 (csplit7F x))]), (Go.Value.int IntKind.i64 (csplit8F x))])
  | _ => none
def csplitK (args : Array Value) : Bool := match args.toList with
  | [.float .f64 x] => (csplitOkF x == true)
  | _ => false
def csplitA : AFn := { f := 16, val := csplitV, ok := csplitK }
theorem csplit_sound : PSound cx0 csplitA.pfn := psound_startW laE_sound lpE_sound fun args v h => by
  obtain ⟨hv, hk⟩ := afn_some h
  replace hv : csplitV args = some v := hv
  replace hk : csplitK args = true := hk
  unfold csplitV at hv
  split at hv
  · rename_i x hx
    have ha := args_list hx
    subst ha
    cases hv
    have hok : csplitOkF x = true := by simpa [csplitK] using hk
    exact ⟨rfl, rfl, 30, csplit_ev x hok⟩
  · cases hv
end Go.Proofs.YthopphfehgdocaaGreatDoor
namespace Go.Proofs.YthopphfehgdocaaGreatDoor
open Go Go.RowKit Go.Ev Go.Proofs Go.Shelf
set_option linter.unusedSimpArgs false
set_option linter.unusedVariables false

theorem cjoin_p0 (Y : Int) (M : Int) (D : Int) (ho : Int) (mi : Int) (S : Nat) (W : Int) (J : Int) (h1 : ((decide (Y < ((-1000000000 : Int)))) == false) = true) (h2 : ((decide (Y > 1000000000)) == false) = true) (h3 : ((decide (M < ((-1000000000 : Int)))) == false) = true) (h4 : ((decide (M > 1000000000)) == false) = true) (h5 : ((decide (D < ((-1000000000 : Int)))) == false) = true) (h6 : ((decide (D > 1000000000)) == false) = true) (h7 : ((decide (ho < ((-1000000000 : Int)))) == false) = true) (h8 : ((decide (ho > 1000000000)) == false) = true) (h9 : ((decide (mi < ((-1000000000 : Int)))) == false) = true) (h10 : ((decide (mi > 1000000000)) == false) = true) (h11 : ((decide ((IntKind.i64.wrap (Y + (IntKind.i64.wrap (M / 12)))) < ((-9999 : Int)))) == false) = true) (h12 : ((decide ((IntKind.i64.wrap (Y + (IntKind.i64.wrap (M / 12)))) > 9999)) == false) = true) (h13 : (((Ieee.Format.order (FloatKind.format FloatKind.f64) S S) != (Option.some Ordering.eq)) == false) = true) (h14 : (((Ieee.Format.order (FloatKind.format FloatKind.f64) (Int.toNat (IntKind.u64.wrap ((((BitVec.toNat ((BitVec.ofInt 64 (((S : Nat) : Int))) &&& (~~~(BitVec.ofInt 64 9223372036854775808)))) : Nat) : Int)))) 4741671816366391296) == (Option.some Ordering.gt)) == false) = true) (h15 : ((numOkF (IntKind.i64.wrap (Y + (IntKind.i64.wrap (M / 12)))) (M % 12) 1) == true) = true) (h16 : (Go.Ev.froundOk S) = true) (h17 : (Go.Ev.f2iOk FloatKind.f64 (Go.Ev.fround Ieee.Toward.down S) IntKind.i64) = true) (h18 : ((decide ((IntKind.i64.wrap ((IntKind.i64.wrap ((IntKind.i64.wrap ((IntKind.i64.wrap ((IntKind.i64.wrap ((IntKind.i64.wrap ((IntKind.i64.wrap ((numdF (IntKind.i64.wrap (Y + (IntKind.i64.wrap (M / 12)))) (M % 12) 1) + D)) - 1)) * 86400)) + (IntKind.i64.wrap (ho * 3600)))) + (IntKind.i64.wrap (mi * 60)))) + (Go.Ev.f2i FloatKind.f64 (Go.Ev.fround Ieee.Toward.down S)))) / 86400)) < ((-4371587 : Int)))) == false) = true) (h19 : ((decide ((IntKind.i64.wrap ((IntKind.i64.wrap ((IntKind.i64.wrap ((IntKind.i64.wrap ((IntKind.i64.wrap ((IntKind.i64.wrap ((IntKind.i64.wrap ((numdF (IntKind.i64.wrap (Y + (IntKind.i64.wrap (M / 12)))) (M % 12) 1) + D)) - 1)) * 86400)) + (IntKind.i64.wrap (ho * 3600)))) + (IntKind.i64.wrap (mi * 60)))) + (Go.Ev.f2i FloatKind.f64 (Go.Ev.fround Ieee.Toward.down S)))) / 86400)) > 2932896)) == false) = true) : ∃ H' nx', evFunc (withFns cx0 laE lpE) 30 63 #[.agg #[.int .i64 Y, .int .i64 M, .int .i64 D, .int .i64 ho, .int .i64 mi, .float .f64 S, .int .i64 W, .int .i64 J]] H0 12 = some ((Go.Value.tuple #[(Go.Value.int IntKind.i64 (IntKind.i64.wrap ((IntKind.i64.wrap ((IntKind.i64.wrap ((IntKind.i64.wrap ((IntKind.i64.wrap ((IntKind.i64.wrap ((numdF (IntKind.i64.wrap (Y + (IntKind.i64.wrap (M / 12)))) (M % 12) 1) + D)) - 1)) * 86400)) + (IntKind.i64.wrap (ho * 3600)))) + (IntKind.i64.wrap (mi * 60)))) + (Go.Ev.f2i FloatKind.f64 (Go.Ev.fround Ieee.Toward.down S))))), (Go.Value.int IntKind.i64 0)]), H', nx') :=
  orc_sel ((hkW laE lpE)) (m := [false, true, true, true, true, false, true, true, true, true, false, true, true, true, true, false, true, true, true, true, false, true, true, true, true, false, true, true, true, true, true, true, true, true, true, true, true, true, true, true, false, false, false, false, false, true, false, false, false, true, false, false, false, true, true, true, true]) (l := [((decide (Y < ((-1000000000 : Int)))) == false), ((decide (Y < ((-1000000000 : Int)))) == false), ((decide (Y < ((-1000000000 : Int)))) == false), ((decide (Y > 1000000000)) == false), ((decide (M < ((-1000000000 : Int)))) == false), ((decide (M < ((-1000000000 : Int)))) == false), ((decide (M < ((-1000000000 : Int)))) == false), ((decide (M > 1000000000)) == false), ((decide (D < ((-1000000000 : Int)))) == false), ((decide (D < ((-1000000000 : Int)))) == false), ((decide (D < ((-1000000000 : Int)))) == false), ((decide (D > 1000000000)) == false), ((decide (ho < ((-1000000000 : Int)))) == false), ((decide (ho < ((-1000000000 : Int)))) == false), ((decide (ho < ((-1000000000 : Int)))) == false), ((decide (ho > 1000000000)) == false), ((decide (mi < ((-1000000000 : Int)))) == false), ((decide (mi < ((-1000000000 : Int)))) == false), ((decide (mi < ((-1000000000 : Int)))) == false), ((decide (mi > 1000000000)) == false), ((decide ((IntKind.i64.wrap (Y + (IntKind.i64.wrap (M / 12)))) < ((-9999 : Int)))) == false), ((decide ((IntKind.i64.wrap (Y + (IntKind.i64.wrap (M / 12)))) < ((-9999 : Int)))) == false), ((decide ((IntKind.i64.wrap (Y + (IntKind.i64.wrap (M / 12)))) < ((-9999 : Int)))) == false), ((decide ((IntKind.i64.wrap (Y + (IntKind.i64.wrap (M / 12)))) > 9999)) == false), ((decide ((IntKind.i64.wrap (Y + (IntKind.i64.wrap (M / 12)))) > 9999)) == false), ((decide ((IntKind.i64.wrap (Y + (IntKind.i64.wrap (M / 12)))) > 9999)) == false), ((decide ((IntKind.i64.wrap (Y + (IntKind.i64.wrap (M / 12)))) > 9999)) == false), (((Ieee.Format.order (FloatKind.format FloatKind.f64) S S) != (Option.some Ordering.eq)) == false), (((Ieee.Format.order (FloatKind.format FloatKind.f64) S S) != (Option.some Ordering.eq)) == false), (((Ieee.Format.order (FloatKind.format FloatKind.f64) S S) != (Option.some Ordering.eq)) == false), (((Ieee.Format.order (FloatKind.format FloatKind.f64) S S) != (Option.some Ordering.eq)) == false), (((Ieee.Format.order (FloatKind.format FloatKind.f64) S S) != (Option.some Ordering.eq)) == false), (((Ieee.Format.order (FloatKind.format FloatKind.f64) (Int.toNat (IntKind.u64.wrap ((((BitVec.toNat ((BitVec.ofInt 64 (((S : Nat) : Int))) &&& (~~~(BitVec.ofInt 64 9223372036854775808)))) : Nat) : Int)))) 4741671816366391296) == (Option.some Ordering.gt)) == false), ((numOkF (IntKind.i64.wrap (Y + (IntKind.i64.wrap (M / 12)))) (M % 12) 1) == true), (Go.Ev.froundOk S), (Go.Ev.f2iOk FloatKind.f64 (Go.Ev.fround Ieee.Toward.down S) IntKind.i64), ((decide ((IntKind.i64.wrap ((IntKind.i64.wrap ((IntKind.i64.wrap ((IntKind.i64.wrap ((IntKind.i64.wrap ((IntKind.i64.wrap ((IntKind.i64.wrap ((numdF (IntKind.i64.wrap (Y + (IntKind.i64.wrap (M / 12)))) (M % 12) 1) + D)) - 1)) * 86400)) + (IntKind.i64.wrap (ho * 3600)))) + (IntKind.i64.wrap (mi * 60)))) + (Go.Ev.f2i FloatKind.f64 (Go.Ev.fround Ieee.Toward.down S)))) / 86400)) < ((-4371587 : Int)))) == false), ((decide ((IntKind.i64.wrap ((IntKind.i64.wrap ((IntKind.i64.wrap ((IntKind.i64.wrap ((IntKind.i64.wrap ((IntKind.i64.wrap ((IntKind.i64.wrap ((numdF (IntKind.i64.wrap (Y + (IntKind.i64.wrap (M / 12)))) (M % 12) 1) + D)) - 1)) * 86400)) + (IntKind.i64.wrap (ho * 3600)))) + (IntKind.i64.wrap (mi * 60)))) + (Go.Ev.f2i FloatKind.f64 (Go.Ev.fround Ieee.Toward.down S)))) / 86400)) < ((-4371587 : Int)))) == false), ((decide ((IntKind.i64.wrap ((IntKind.i64.wrap ((IntKind.i64.wrap ((IntKind.i64.wrap ((IntKind.i64.wrap ((IntKind.i64.wrap ((IntKind.i64.wrap ((numdF (IntKind.i64.wrap (Y + (IntKind.i64.wrap (M / 12)))) (M % 12) 1) + D)) - 1)) * 86400)) + (IntKind.i64.wrap (ho * 3600)))) + (IntKind.i64.wrap (mi * 60)))) + (Go.Ev.f2i FloatKind.f64 (Go.Ev.fround Ieee.Toward.down S)))) / 86400)) < ((-4371587 : Int)))) == false), ((decide ((IntKind.i64.wrap ((IntKind.i64.wrap ((IntKind.i64.wrap ((IntKind.i64.wrap ((IntKind.i64.wrap ((IntKind.i64.wrap ((IntKind.i64.wrap ((numdF (IntKind.i64.wrap (Y + (IntKind.i64.wrap (M / 12)))) (M % 12) 1) + D)) - 1)) * 86400)) + (IntKind.i64.wrap (ho * 3600)))) + (IntKind.i64.wrap (mi * 60)))) + (Go.Ev.f2i FloatKind.f64 (Go.Ev.fround Ieee.Toward.down S)))) / 86400)) > 2932896)) == false)]) (p := [true, false, false, false, false, true, false, false, false, false, true, false, false, false, false, true, false, false, false, false, true, false, false, false, false, false, false, false, false, false, false, false, false, false, false, false, false, false, false, true, false, false, false, false]) (by kernel_rfl) (by kernel_rfl) (by kernel_rfl) (forall_cons h1 (forall_cons h1 (forall_cons h1 (forall_cons h2 (forall_cons h3 (forall_cons h3 (forall_cons h3 (forall_cons h4 (forall_cons h5 (forall_cons h5 (forall_cons h5 (forall_cons h6 (forall_cons h7 (forall_cons h7 (forall_cons h7 (forall_cons h8 (forall_cons h9 (forall_cons h9 (forall_cons h9 (forall_cons h10 (forall_cons h11 (forall_cons h11 (forall_cons h11 (forall_cons h12 (forall_cons h12 (forall_cons h12 (forall_cons h12 (forall_cons h13 (forall_cons h13 (forall_cons h13 (forall_cons h13 (forall_cons h13 (forall_cons h14 (forall_cons h15 (forall_cons h16 (forall_cons h17 (forall_cons h18 (forall_cons h18 (forall_cons h18 (forall_cons h19 forall_nil))))))))))))))))))))))))))))))))))))))))
def cjoin0F (Y : Int) (M : Int) (D : Int) (ho : Int) (mi : Int) (S : Nat) (W : Int) (J : Int) : Int := (IntKind.i64.wrap ((IntKind.i64.wrap ((IntKind.i64.wrap ((IntKind.i64.wrap ((IntKind.i64.wrap ((IntKind.i64.wrap ((numdF (IntKind.i64.wrap (Y + (IntKind.i64.wrap (M / 12)))) (M % 12) 1) + D)) - 1)) * 86400)) + (IntKind.i64.wrap (ho * 3600)))) + (IntKind.i64.wrap (mi * 60)))) + (Go.Ev.f2i FloatKind.f64 (Go.Ev.fround Ieee.Toward.down S))))
def cjoin1F (Y : Int) (M : Int) (D : Int) (ho : Int) (mi : Int) (S : Nat) (W : Int) (J : Int) : Int := 0
def cjoinOkF (Y : Int) (M : Int) (D : Int) (ho : Int) (mi : Int) (S : Nat) (W : Int) (J : Int) : Bool := ((!((decide (Y < ((-1000000000 : Int)))))) && ((!((decide (Y > 1000000000)))) && ((!((decide (M < ((-1000000000 : Int)))))) && ((!((decide (M > 1000000000)))) && ((!((decide (D < ((-1000000000 : Int)))))) && ((!((decide (D > 1000000000)))) && ((!((decide (ho < ((-1000000000 : Int)))))) && ((!((decide (ho > 1000000000)))) && ((!((decide (mi < ((-1000000000 : Int)))))) && ((!((decide (mi > 1000000000)))) && ((!((decide ((IntKind.i64.wrap (Y + (IntKind.i64.wrap (M / 12)))) < ((-9999 : Int)))))) && ((!((decide ((IntKind.i64.wrap (Y + (IntKind.i64.wrap (M / 12)))) > 9999)))) && ((!(((Ieee.Format.order (FloatKind.format FloatKind.f64) S S) != (Option.some Ordering.eq)))) && ((!(((Ieee.Format.order (FloatKind.format FloatKind.f64) (Int.toNat (IntKind.u64.wrap ((((BitVec.toNat ((BitVec.ofInt 64 (((S : Nat) : Int))) &&& (~~~(BitVec.ofInt 64 9223372036854775808)))) : Nat) : Int)))) 4741671816366391296) == (Option.some Ordering.gt)))) && (((numOkF (IntKind.i64.wrap (Y + (IntKind.i64.wrap (M / 12)))) (M % 12) 1)) && (((Go.Ev.froundOk S)) && (((Go.Ev.f2iOk FloatKind.f64 (Go.Ev.fround Ieee.Toward.down S) IntKind.i64)) && ((!((decide ((IntKind.i64.wrap ((IntKind.i64.wrap ((IntKind.i64.wrap ((IntKind.i64.wrap ((IntKind.i64.wrap ((IntKind.i64.wrap ((IntKind.i64.wrap ((numdF (IntKind.i64.wrap (Y + (IntKind.i64.wrap (M / 12)))) (M % 12) 1) + D)) - 1)) * 86400)) + (IntKind.i64.wrap (ho * 3600)))) + (IntKind.i64.wrap (mi * 60)))) + (Go.Ev.f2i FloatKind.f64 (Go.Ev.fround Ieee.Toward.down S)))) / 86400)) < ((-4371587 : Int)))))) && ((!((decide ((IntKind.i64.wrap ((IntKind.i64.wrap ((IntKind.i64.wrap ((IntKind.i64.wrap ((IntKind.i64.wrap ((IntKind.i64.wrap ((IntKind.i64.wrap ((numdF (IntKind.i64.wrap (Y + (IntKind.i64.wrap (M / 12)))) (M % 12) 1) + D)) - 1)) * 86400)) + (IntKind.i64.wrap (ho * 3600)))) + (IntKind.i64.wrap (mi * 60)))) + (Go.Ev.f2i FloatKind.f64 (Go.Ev.fround Ieee.Toward.down S)))) / 86400)) > 2932896)))) && true)))))))))))))))))))
theorem cjoin_ev (Y : Int) (M : Int) (D : Int) (ho : Int) (mi : Int) (S : Nat) (W : Int) (J : Int) (hok : cjoinOkF Y M D ho mi S W J = true) : ∃ H' nx', evFunc (withFns cx0 laE lpE) 30 63 #[.agg #[.int .i64 Y, .int .i64 M, .int .i64 D, .int .i64 ho, .int .i64 mi, .float .f64 S, .int .i64 W, .int .i64 J]] H0 12 = some ((Go.Value.tuple #[(Go.Value.int IntKind.i64 (cjoin0F Y M D ho mi S W J)), (Go.Value.int IntKind.i64 (cjoin1F Y M D ho mi S W J))]), H', nx') := by
  unfold cjoinOkF at hok
  have c0_ : ((decide (Y < ((-1000000000 : Int))))) = false := by
    simp only [Bool.and_eq_true, Bool.not_eq_true', cond_true, cond_false] at hok
    first | exact hok.1 | (simp only [Bool.not_eq_true']; exact hok.1)
  replace hok := by
    simp only [c0_, Bool.not_true, Bool.not_false, Bool.true_and, cond_true, cond_false] at hok
    exact hok
  have c1_ : ((decide (Y > 1000000000))) = false := by
    simp only [c0_, Bool.and_eq_true, Bool.not_eq_true', cond_true, cond_false] at hok
    first | exact hok.1 | (simp only [Bool.not_eq_true']; exact hok.1)
  replace hok := by
    simp only [c0_, c1_, Bool.not_true, Bool.not_false, Bool.true_and, cond_true, cond_false] at hok
    exact hok
  have c2_ : ((decide (M < ((-1000000000 : Int))))) = false := by
    simp only [c0_, c1_, Bool.and_eq_true, Bool.not_eq_true', cond_true, cond_false] at hok
    first | exact hok.1 | (simp only [Bool.not_eq_true']; exact hok.1)
  replace hok := by
    simp only [c0_, c1_, c2_, Bool.not_true, Bool.not_false, Bool.true_and, cond_true, cond_false] at hok
    exact hok
  have c3_ : ((decide (M > 1000000000))) = false := by
    simp only [c0_, c1_, c2_, Bool.and_eq_true, Bool.not_eq_true', cond_true, cond_false] at hok
    first | exact hok.1 | (simp only [Bool.not_eq_true']; exact hok.1)
  replace hok := by
    simp only [c0_, c1_, c2_, c3_, Bool.not_true, Bool.not_false, Bool.true_and, cond_true, cond_false] at hok
    exact hok
  have c4_ : ((decide (D < ((-1000000000 : Int))))) = false := by
    simp only [c0_, c1_, c2_, c3_, Bool.and_eq_true, Bool.not_eq_true', cond_true, cond_false] at hok
    first | exact hok.1 | (simp only [Bool.not_eq_true']; exact hok.1)
  replace hok := by
    simp only [c0_, c1_, c2_, c3_, c4_, Bool.not_true, Bool.not_false, Bool.true_and, cond_true, cond_false] at hok
    exact hok
  have c5_ : ((decide (D > 1000000000))) = false := by
    simp only [c0_, c1_, c2_, c3_, c4_, Bool.and_eq_true, Bool.not_eq_true', cond_true, cond_false] at hok
    first | exact hok.1 | (simp only [Bool.not_eq_true']; exact hok.1)
  replace hok := by
    simp only [c0_, c1_, c2_, c3_, c4_, c5_, Bool.not_true, Bool.not_false, Bool.true_and, cond_true, cond_false] at hok
    exact hok
  have c6_ : ((decide (ho < ((-1000000000 : Int))))) = false := by
    simp only [c0_, c1_, c2_, c3_, c4_, c5_, Bool.and_eq_true, Bool.not_eq_true', cond_true, cond_false] at hok
    first | exact hok.1 | (simp only [Bool.not_eq_true']; exact hok.1)
  replace hok := by
    simp only [c0_, c1_, c2_, c3_, c4_, c5_, c6_, Bool.not_true, Bool.not_false, Bool.true_and, cond_true, cond_false] at hok
    exact hok
  have c7_ : ((decide (ho > 1000000000))) = false := by
    simp only [c0_, c1_, c2_, c3_, c4_, c5_, c6_, Bool.and_eq_true, Bool.not_eq_true', cond_true, cond_false] at hok
    first | exact hok.1 | (simp only [Bool.not_eq_true']; exact hok.1)
  replace hok := by
    simp only [c0_, c1_, c2_, c3_, c4_, c5_, c6_, c7_, Bool.not_true, Bool.not_false, Bool.true_and, cond_true, cond_false] at hok
    exact hok
  have c8_ : ((decide (mi < ((-1000000000 : Int))))) = false := by
    simp only [c0_, c1_, c2_, c3_, c4_, c5_, c6_, c7_, Bool.and_eq_true, Bool.not_eq_true', cond_true, cond_false] at hok
    first | exact hok.1 | (simp only [Bool.not_eq_true']; exact hok.1)
  replace hok := by
    simp only [c0_, c1_, c2_, c3_, c4_, c5_, c6_, c7_, c8_, Bool.not_true, Bool.not_false, Bool.true_and, cond_true, cond_false] at hok
    exact hok
  have c9_ : ((decide (mi > 1000000000))) = false := by
    simp only [c0_, c1_, c2_, c3_, c4_, c5_, c6_, c7_, c8_, Bool.and_eq_true, Bool.not_eq_true', cond_true, cond_false] at hok
    first | exact hok.1 | (simp only [Bool.not_eq_true']; exact hok.1)
  replace hok := by
    simp only [c0_, c1_, c2_, c3_, c4_, c5_, c6_, c7_, c8_, c9_, Bool.not_true, Bool.not_false, Bool.true_and, cond_true, cond_false] at hok
    exact hok
  have c10_ : ((decide ((IntKind.i64.wrap (Y + (IntKind.i64.wrap (M / 12)))) < ((-9999 : Int))))) = false := by
    simp only [c0_, c1_, c2_, c3_, c4_, c5_, c6_, c7_, c8_, c9_, Bool.and_eq_true, Bool.not_eq_true', cond_true, cond_false] at hok
    first | exact hok.1 | (simp only [Bool.not_eq_true']; exact hok.1)
  replace hok := by
    simp only [c0_, c1_, c2_, c3_, c4_, c5_, c6_, c7_, c8_, c9_, c10_, Bool.not_true, Bool.not_false, Bool.true_and, cond_true, cond_false] at hok
    exact hok
  have c11_ : ((decide ((IntKind.i64.wrap (Y + (IntKind.i64.wrap (M / 12)))) > 9999))) = false := by
    simp only [c0_, c1_, c2_, c3_, c4_, c5_, c6_, c7_, c8_, c9_, c10_, Bool.and_eq_true, Bool.not_eq_true', cond_true, cond_false] at hok
    first | exact hok.1 | (simp only [Bool.not_eq_true']; exact hok.1)
  replace hok := by
    simp only [c0_, c1_, c2_, c3_, c4_, c5_, c6_, c7_, c8_, c9_, c10_, c11_, Bool.not_true, Bool.not_false, Bool.true_and, cond_true, cond_false] at hok
    exact hok
  have c12_ : (((Ieee.Format.order (FloatKind.format FloatKind.f64) S S) != (Option.some Ordering.eq))) = false := by
    simp only [c0_, c1_, c2_, c3_, c4_, c5_, c6_, c7_, c8_, c9_, c10_, c11_, Bool.and_eq_true, Bool.not_eq_true', cond_true, cond_false] at hok
    first | exact hok.1 | (simp only [Bool.not_eq_true']; exact hok.1)
  replace hok := by
    simp only [c0_, c1_, c2_, c3_, c4_, c5_, c6_, c7_, c8_, c9_, c10_, c11_, c12_, Bool.not_true, Bool.not_false, Bool.true_and, cond_true, cond_false] at hok
    exact hok
  have c13_ : (((Ieee.Format.order (FloatKind.format FloatKind.f64) (Int.toNat (IntKind.u64.wrap ((((BitVec.toNat ((BitVec.ofInt 64 (((S : Nat) : Int))) &&& (~~~(BitVec.ofInt 64 9223372036854775808)))) : Nat) : Int)))) 4741671816366391296) == (Option.some Ordering.gt))) = false := by
    simp only [c0_, c1_, c2_, c3_, c4_, c5_, c6_, c7_, c8_, c9_, c10_, c11_, c12_, Bool.and_eq_true, Bool.not_eq_true', cond_true, cond_false] at hok
    first | exact hok.1 | (simp only [Bool.not_eq_true']; exact hok.1)
  replace hok := by
    simp only [c0_, c1_, c2_, c3_, c4_, c5_, c6_, c7_, c8_, c9_, c10_, c11_, c12_, c13_, Bool.not_true, Bool.not_false, Bool.true_and, cond_true, cond_false] at hok
    exact hok
  have c14_ : ((numOkF (IntKind.i64.wrap (Y + (IntKind.i64.wrap (M / 12)))) (M % 12) 1)) = true := by
    simp only [c0_, c1_, c2_, c3_, c4_, c5_, c6_, c7_, c8_, c9_, c10_, c11_, c12_, c13_, Bool.and_eq_true, Bool.not_eq_true', cond_true, cond_false] at hok
    first | exact hok.1 | (simp only [Bool.not_eq_true']; exact hok.1)
  replace hok := by
    simp only [c0_, c1_, c2_, c3_, c4_, c5_, c6_, c7_, c8_, c9_, c10_, c11_, c12_, c13_, c14_, Bool.not_true, Bool.not_false, Bool.true_and, cond_true, cond_false] at hok
    exact hok
  have c15_ : ((Go.Ev.froundOk S)) = true := by
    simp only [c0_, c1_, c2_, c3_, c4_, c5_, c6_, c7_, c8_, c9_, c10_, c11_, c12_, c13_, c14_, Bool.and_eq_true, Bool.not_eq_true', cond_true, cond_false] at hok
    first | exact hok.1 | (simp only [Bool.not_eq_true']; exact hok.1)
  replace hok := by
    simp only [c0_, c1_, c2_, c3_, c4_, c5_, c6_, c7_, c8_, c9_, c10_, c11_, c12_, c13_, c14_, c15_, Bool.not_true, Bool.not_false, Bool.true_and, cond_true, cond_false] at hok
    exact hok
  have c16_ : ((Go.Ev.f2iOk FloatKind.f64 (Go.Ev.fround Ieee.Toward.down S) IntKind.i64)) = true := by
    simp only [c0_, c1_, c2_, c3_, c4_, c5_, c6_, c7_, c8_, c9_, c10_, c11_, c12_, c13_, c14_, c15_, Bool.and_eq_true, Bool.not_eq_true', cond_true, cond_false] at hok
    first | exact hok.1 | (simp only [Bool.not_eq_true']; exact hok.1)
  replace hok := by
    simp only [c0_, c1_, c2_, c3_, c4_, c5_, c6_, c7_, c8_, c9_, c10_, c11_, c12_, c13_, c14_, c15_, c16_, Bool.not_true, Bool.not_false, Bool.true_and, cond_true, cond_false] at hok
    exact hok
  have c17_ : ((decide ((IntKind.i64.wrap ((IntKind.i64.wrap ((IntKind.i64.wrap ((IntKind.i64.wrap ((IntKind.i64.wrap ((IntKind.i64.wrap ((IntKind.i64.wrap ((numdF (IntKind.i64.wrap (Y + (IntKind.i64.wrap (M / 12)))) (M % 12) 1) + D)) - 1)) * 86400)) + (IntKind.i64.wrap (ho * 3600)))) + (IntKind.i64.wrap (mi * 60)))) + (Go.Ev.f2i FloatKind.f64 (Go.Ev.fround Ieee.Toward.down S)))) / 86400)) < ((-4371587 : Int))))) = false := by
    simp only [c0_, c1_, c2_, c3_, c4_, c5_, c6_, c7_, c8_, c9_, c10_, c11_, c12_, c13_, c14_, c15_, c16_, Bool.and_eq_true, Bool.not_eq_true', cond_true, cond_false] at hok
    first | exact hok.1 | (simp only [Bool.not_eq_true']; exact hok.1)
  replace hok := by
    simp only [c0_, c1_, c2_, c3_, c4_, c5_, c6_, c7_, c8_, c9_, c10_, c11_, c12_, c13_, c14_, c15_, c16_, c17_, Bool.not_true, Bool.not_false, Bool.true_and, cond_true, cond_false] at hok
    exact hok
  have c18_ : ((decide ((IntKind.i64.wrap ((IntKind.i64.wrap ((IntKind.i64.wrap ((IntKind.i64.wrap ((IntKind.i64.wrap ((IntKind.i64.wrap ((IntKind.i64.wrap ((numdF (IntKind.i64.wrap (Y + (IntKind.i64.wrap (M / 12)))) (M % 12) 1) + D)) - 1)) * 86400)) + (IntKind.i64.wrap (ho * 3600)))) + (IntKind.i64.wrap (mi * 60)))) + (Go.Ev.f2i FloatKind.f64 (Go.Ev.fround Ieee.Toward.down S)))) / 86400)) > 2932896))) = false := by
    simp only [c0_, c1_, c2_, c3_, c4_, c5_, c6_, c7_, c8_, c9_, c10_, c11_, c12_, c13_, c14_, c15_, c16_, c17_, Bool.and_eq_true, Bool.not_eq_true', cond_true, cond_false] at hok
    first | exact hok.1 | (simp only [Bool.not_eq_true']; exact hok.1)
  replace hok := by
    simp only [c0_, c1_, c2_, c3_, c4_, c5_, c6_, c7_, c8_, c9_, c10_, c11_, c12_, c13_, c14_, c15_, c16_, c17_, c18_, Bool.not_true, Bool.not_false, Bool.true_and, cond_true, cond_false] at hok
    exact hok
  unfold cjoin0F cjoin1F
  try simp only [c0_, c1_, c2_, c3_, c4_, c5_, c6_, c7_, c8_, c9_, c10_, c11_, c12_, c13_, c14_, c15_, c16_, c17_, c18_, cond_true, cond_false]
  exact cjoin_p0 Y M D ho mi S W J (by rw [c0_]; rfl) (by rw [c1_]; rfl) (by rw [c2_]; rfl) (by rw [c3_]; rfl) (by rw [c4_]; rfl) (by rw [c5_]; rfl) (by rw [c6_]; rfl) (by rw [c7_]; rfl) (by rw [c8_]; rfl) (by rw [c9_]; rfl) (by rw [c10_]; rfl) (by rw [c11_]; rfl) (by rw [c12_]; rfl) (by rw [c13_]; rfl) (by rw [c14_]; rfl) c15_ c16_ (by rw [c17_]; rfl) (by rw [c18_]; rfl)
def cjoinV (args : Array Value) : Option Value := match args.toList with
  | [.agg a0_] => match a0_.toList with | [.int .i64 Y, .int .i64 M, .int .i64 D, .int .i64 ho, .int .i64 mi, .float .f64 S, .int .i64 W, .int .i64 J] => some (Go.Value.tuple #[(Go.Value.int IntKind.i64 (cjoin0F Y M D ho mi S W J)), (Go.Value.int IntKind.i64 (cjoin1F Y M D ho mi S W J))]) | _ => none
  | _ => none
def cjoinK (args : Array Value) : Bool := match args.toList with
  | [.agg a0_] => match a0_.toList with | [.int .i64 Y, .int .i64 M, .int .i64 D, .int .i64 ho, .int .i64 mi, .float .f64 S, .int .i64 W, .int .i64 J] => (cjoinOkF Y M D ho mi S W J == true) | _ => false
  | _ => false
def cjoinA : AFn := { f := 63, val := cjoinV, ok := cjoinK }
theorem cjoin_sound : PSound cx0 cjoinA.pfn := psound_startW laE_sound lpE_sound fun args v h => by
  obtain ⟨hv, hk⟩ := afn_some h
  replace hv : cjoinV args = some v := hv
  replace hk : cjoinK args = true := hk
  unfold cjoinV at hv
  split at hv
  · rename_i a0_ hx
    have ha := args_list hx
    subst ha
    split at hv
    · rename_i Y M D ho mi S W J hx0
      have ha0 := args_list hx0
      subst ha0
      cases hv
      have hok : cjoinOkF Y M D ho mi S W J = true := by simpa [cjoinK] using hk
      exact ⟨rfl, rfl, 30, cjoin_ev Y M D ho mi S W J hok⟩
    · cases hv
  · cases hv
end Go.Proofs.YthopphfehgdocaaGreatDoor
namespace Go.Proofs.YthopphfehgdocaaGreatDoor
open Go Go.RowKit Go.Ev Go.Proofs Go.Shelf
/-- the contracts of the calendars, all of them -/
def laG : List AFn := [numberA2, beginA2, cdayA, cwksA, csplitA, cjoinA]
theorem laG_sound : ∀ e ∈ laG, PSound cx0 e.pfn := asound_cons number2_sound (asound_cons begin2_sound (asound_cons cday_sound (asound_cons cwks_sound (asound_cons csplit_sound (asound_cons cjoin_sound asound_nil)))))
end Go.Proofs.YthopphfehgdocaaGreatDoor
