import Derived.Test.YthopphfehgdocaaGreatDoorRefK
set_option linter.unusedSimpArgs false
set_option linter.unusedVariables false
namespace Go.Proofs.YthopphfehgdocaaGreatDoor
open Go Go.RowKit Go.Ev Go.Proofs Go.Shelf
def nrmT (Y M D ho mi : Int) (S : Nat) (W J : Int) {α : Type} (a b : α) : α := bif ((cjoin1F Y M D ho mi S W J) != 0) then b else bif ((csplit0F (FloatKind.nearest .f64 (cjoin0F Y M D ho mi S W J))) != Y) then b else bif ((csplit1F (FloatKind.nearest .f64 (cjoin0F Y M D ho mi S W J))) != M) then b else bif ((csplit2F (FloatKind.nearest .f64 (cjoin0F Y M D ho mi S W J))) != D) then b else bif ((csplit3F (FloatKind.nearest .f64 (cjoin0F Y M D ho mi S W J))) != ho) then b else bif ((csplit4F (FloatKind.nearest .f64 (cjoin0F Y M D ho mi S W J))) != mi) then b else bif ((Ieee.Format.order (FloatKind.f64.format) (csplit5F (FloatKind.nearest .f64 (cjoin0F Y M D ho mi S W J))) (fround .down S)) != (some Ordering.eq)) then b else a
def norm0F (Y M D ho mi : Int) (S : Nat) (W J : Int) : Int := nrmT Y M D ho mi S W J (csplit0F (FloatKind.nearest .f64 (cjoin0F Y M D ho mi S W J))) 0
def norm1F (Y M D ho mi : Int) (S : Nat) (W J : Int) : Int := nrmT Y M D ho mi S W J (csplit1F (FloatKind.nearest .f64 (cjoin0F Y M D ho mi S W J))) 0
def norm2F (Y M D ho mi : Int) (S : Nat) (W J : Int) : Int := nrmT Y M D ho mi S W J (csplit2F (FloatKind.nearest .f64 (cjoin0F Y M D ho mi S W J))) 0
def norm3F (Y M D ho mi : Int) (S : Nat) (W J : Int) : Int := nrmT Y M D ho mi S W J (csplit3F (FloatKind.nearest .f64 (cjoin0F Y M D ho mi S W J))) 0
def norm4F (Y M D ho mi : Int) (S : Nat) (W J : Int) : Int := nrmT Y M D ho mi S W J (csplit4F (FloatKind.nearest .f64 (cjoin0F Y M D ho mi S W J))) 0
def norm5F (Y M D ho mi : Int) (S : Nat) (W J : Int) : Nat := nrmT Y M D ho mi S W J (csplit5F (FloatKind.nearest .f64 (cjoin0F Y M D ho mi S W J))) 0
def norm6F (Y M D ho mi : Int) (S : Nat) (W J : Int) : Int := nrmT Y M D ho mi S W J (csplit6F (FloatKind.nearest .f64 (cjoin0F Y M D ho mi S W J))) 0
def norm7F (Y M D ho mi : Int) (S : Nat) (W J : Int) : Int := nrmT Y M D ho mi S W J (csplit7F (FloatKind.nearest .f64 (cjoin0F Y M D ho mi S W J))) 0
def norm8F (Y M D ho mi : Int) (S : Nat) (W J : Int) : Int := nrmT Y M D ho mi S W J (cjoin0F Y M D ho mi S W J) 0
def norm9F (Y M D ho mi : Int) (S : Nat) (W J : Int) : Int := nrmT Y M D ho mi S W J (cwks0F (cday0F (csplit0F (FloatKind.nearest .f64 (cjoin0F Y M D ho mi S W J))) (csplit1F (FloatKind.nearest .f64 (cjoin0F Y M D ho mi S W J))) (csplit2F (FloatKind.nearest .f64 (cjoin0F Y M D ho mi S W J))))) 0
def norm10F (Y M D ho mi : Int) (S : Nat) (W J : Int) : Int := nrmT Y M D ho mi S W J (cwks1F (cday0F (csplit0F (FloatKind.nearest .f64 (cjoin0F Y M D ho mi S W J))) (csplit1F (FloatKind.nearest .f64 (cjoin0F Y M D ho mi S W J))) (csplit2F (FloatKind.nearest .f64 (cjoin0F Y M D ho mi S W J))))) 0
def norm11F (Y M D ho mi : Int) (S : Nat) (W J : Int) : Int := nrmT Y M D ho mi S W J (cwks2F (cday0F (csplit0F (FloatKind.nearest .f64 (cjoin0F Y M D ho mi S W J))) (csplit1F (FloatKind.nearest .f64 (cjoin0F Y M D ho mi S W J))) (csplit2F (FloatKind.nearest .f64 (cjoin0F Y M D ho mi S W J))))) 0
def norm12F (Y M D ho mi : Int) (S : Nat) (W J : Int) : Int := nrmT Y M D ho mi S W J (cwks3F (cday0F (csplit0F (FloatKind.nearest .f64 (cjoin0F Y M D ho mi S W J))) (csplit1F (FloatKind.nearest .f64 (cjoin0F Y M D ho mi S W J))) (csplit2F (FloatKind.nearest .f64 (cjoin0F Y M D ho mi S W J))))) 0
def norm13F (Y M D ho mi : Int) (S : Nat) (W J : Int) : Bool := nrmT Y M D ho mi S W J true false
def normOkF (Y M D ho mi : Int) (S : Nat) (W J : Int) : Bool := (((cjoinOkF Y M D ho mi S W J)) && (bif ((cjoin1F Y M D ho mi S W J) != 0) then true else (((csplitOkF (FloatKind.nearest .f64 (cjoin0F Y M D ho mi S W J)))) && (bif ((csplit0F (FloatKind.nearest .f64 (cjoin0F Y M D ho mi S W J))) != Y) then true else (bif ((csplit1F (FloatKind.nearest .f64 (cjoin0F Y M D ho mi S W J))) != M) then true else (bif ((csplit2F (FloatKind.nearest .f64 (cjoin0F Y M D ho mi S W J))) != D) then true else (bif ((csplit3F (FloatKind.nearest .f64 (cjoin0F Y M D ho mi S W J))) != ho) then true else (bif ((csplit4F (FloatKind.nearest .f64 (cjoin0F Y M D ho mi S W J))) != mi) then true else (((froundOk S)) && (bif ((Ieee.Format.order (FloatKind.f64.format) (csplit5F (FloatKind.nearest .f64 (cjoin0F Y M D ho mi S W J))) (fround .down S)) != (some Ordering.eq)) then true else (((cdayOkF (csplit0F (FloatKind.nearest .f64 (cjoin0F Y M D ho mi S W J))) (csplit1F (FloatKind.nearest .f64 (cjoin0F Y M D ho mi S W J))) (csplit2F (FloatKind.nearest .f64 (cjoin0F Y M D ho mi S W J))))) && (((cwksOkF (cday0F (csplit0F (FloatKind.nearest .f64 (cjoin0F Y M D ho mi S W J))) (csplit1F (FloatKind.nearest .f64 (cjoin0F Y M D ho mi S W J))) (csplit2F (FloatKind.nearest .f64 (cjoin0F Y M D ho mi S W J)))))) && true))))))))))))
theorem norm_ev (Y M D ho mi : Int) (S : Nat) (W J : Int) (hok : normOkF Y M D ho mi S W J = true) : ∃ H' nx', evFunc (withFns cx0 laG lpE) 30 33 #[tmA Y M D ho mi S W J] H0 12 = some ((Value.tuple #[(Value.agg #[(Value.int IntKind.i64 (norm0F Y M D ho mi S W J)), (Value.int IntKind.i64 (norm1F Y M D ho mi S W J)), (Value.int IntKind.i64 (norm2F Y M D ho mi S W J)), (Value.int IntKind.i64 (norm3F Y M D ho mi S W J)), (Value.int IntKind.i64 (norm4F Y M D ho mi S W J)), (Value.float FloatKind.f64 (norm5F Y M D ho mi S W J)), (Value.int IntKind.i64 (norm6F Y M D ho mi S W J)), (Value.int IntKind.i64 (norm7F Y M D ho mi S W J)), (Value.int IntKind.i64 (norm8F Y M D ho mi S W J)), (Value.int IntKind.i64 (norm9F Y M D ho mi S W J)), (Value.int IntKind.i64 (norm10F Y M D ho mi S W J)), (Value.int IntKind.i64 (norm11F Y M D ho mi S W J)), (Value.int IntKind.i64 (norm12F Y M D ho mi S W J))]), (Value.bool (norm13F Y M D ho mi S W J))]), H', nx') := by
 unfold normOkF at hok
 obtain ⟨c0_, hok⟩ := aO hok
 cases c1_ : (((cjoin1F Y M D ho mi S W J) != 0)) with
 | true =>
  unfold norm0F norm1F norm2F norm3F norm4F norm5F norm6F norm7F norm8F norm9F norm10F norm11F norm12F norm13F nrmT
  simp only [c0_, c1_, cond_true, cond_false]
  exact oS ((hkW laG lpE)) (m := [true, true]) (p := [true]) (aC (bT c0_) (aC (bT c1_) aN))
 | false =>
  have c2_ : ((csplitOkF (FloatKind.nearest .f64 (cjoin0F Y M D ho mi S W J)))) = true := by
   simp only [c0_, c1_, Bool.and_eq_true, Bool.not_eq_true', cond_true, cond_false] at hok
   exact hok.1
  replace hok := by
   simp only [c0_, c1_, c2_, Bool.not_true, Bool.not_false, Bool.true_and, cond_true, cond_false] at hok
   exact hok
  cases c3_ : (((csplit0F (FloatKind.nearest .f64 (cjoin0F Y M D ho mi S W J))) != Y)) with
  | true =>
   unfold norm0F norm1F norm2F norm3F norm4F norm5F norm6F norm7F norm8F norm9F norm10F norm11F norm12F norm13F nrmT
   simp only [c0_, c1_, c2_, c3_, cond_true, cond_false]
   exact oS ((hkW laG lpE)) (m := (bitsN 9 511)) (p := (bitsN 33 8589934590)) (aC (bT c0_) (aC (bF c1_) (aC (bT c2_) (C6 (bT c3_) aN))))
  | false =>
   cases c4_ : (((csplit1F (FloatKind.nearest .f64 (cjoin0F Y M D ho mi S W J))) != M)) with
   | true =>
    unfold norm0F norm1F norm2F norm3F norm4F norm5F norm6F norm7F norm8F norm9F norm10F norm11F norm12F norm13F nrmT
    simp only [c0_, c1_, c2_, c3_, c4_, cond_true, cond_false]
    exact oS ((hkW laG lpE)) (m := (bitsN 15 32767)) (p := (bitsN 33 8589934464)) (aC (bT c0_) (aC (bF c1_) (aC (bT c2_) (C6 (bF c3_) (C6 (bT c4_) aN)))))
   | false =>
    cases c5_ : (((csplit2F (FloatKind.nearest .f64 (cjoin0F Y M D ho mi S W J))) != D)) with
    | true =>
     unfold norm0F norm1F norm2F norm3F norm4F norm5F norm6F norm7F norm8F norm9F norm10F norm11F norm12F norm13F nrmT
     simp only [c0_, c1_, c2_, c3_, c4_, c5_, cond_true, cond_false]
     exact oS ((hkW laG lpE)) (m := (bitsN 21 2097151)) (p := (bitsN 33 8589926400)) (aC (bT c0_) (aC (bF c1_) (aC (bT c2_) (C6 (bF c3_) (C6 (bF c4_) (C6 (bT c5_) aN))))))
    | false =>
     cases c6_ : (((csplit3F (FloatKind.nearest .f64 (cjoin0F Y M D ho mi S W J))) != ho)) with
     | true =>
      unfold norm0F norm1F norm2F norm3F norm4F norm5F norm6F norm7F norm8F norm9F norm10F norm11F norm12F norm13F nrmT
      simp only [c0_, c1_, c2_, c3_, c4_, c5_, c6_, cond_true, cond_false]
      exact oS ((hkW laG lpE)) (m := (bitsN 27 134217727)) (p := (bitsN 33 8589410304)) (aC (bT c0_) (aC (bF c1_) (aC (bT c2_) (C6 (bF c3_) (C6 (bF c4_) (C6 (bF c5_) (C6 (bT c6_) aN)))))))
     | false =>
      cases c7_ : (((csplit4F (FloatKind.nearest .f64 (cjoin0F Y M D ho mi S W J))) != mi)) with
      | true =>
       unfold norm0F norm1F norm2F norm3F norm4F norm5F norm6F norm7F norm8F norm9F norm10F norm11F norm12F norm13F nrmT
       simp only [c0_, c1_, c2_, c3_, c4_, c5_, c6_, c7_, cond_true, cond_false]
       exact oS ((hkW laG lpE)) (m := (bitsN 34 17179869183)) (p := (bitsN 33 8556380160)) (aC (bT c0_) (aC (bF c1_) (aC (bT c2_) (C6 (bF c3_) (C6 (bF c4_) (C6 (bF c5_) (C6 (bF c6_) (C7 (bT c7_) aN))))))))
      | false =>
       have c8_ : ((froundOk S)) = true := by
        simp only [c0_, c1_, c2_, c3_, c4_, c5_, c6_, c7_, Bool.and_eq_true, Bool.not_eq_true', cond_true, cond_false] at hok
        exact hok.1
       replace hok := by
        simp only [c0_, c1_, c2_, c3_, c4_, c5_, c6_, c7_, c8_, Bool.not_true, Bool.not_false, Bool.true_and, cond_true, cond_false] at hok
        exact hok
       cases c9_ : (((Ieee.Format.order (FloatKind.f64.format) (csplit5F (FloatKind.nearest .f64 (cjoin0F Y M D ho mi S W J))) (fround .down S)) != (some Ordering.eq))) with
       | true =>
        unfold norm0F norm1F norm2F norm3F norm4F norm5F norm6F norm7F norm8F norm9F norm10F norm11F norm12F norm13F nrmT
        simp only [c0_, c1_, c2_, c3_, c4_, c5_, c6_, c7_, c8_, c9_, cond_true, cond_false]
        exact oS ((hkW laG lpE)) (m := (bitsN 38 253403070463)) (p := (bitsN 34 9663676416)) (aC (bT c0_) (aC (bF c1_) (aC (bT c2_) (C6 (bF c3_) (C6 (bF c4_) (C6 (bF c5_) (C6 (bF c6_) (C5 (bF c7_) (aC c8_ (C2 (bF c7_) (aC (bT c9_) aN)))))))))))
       | false =>
        have c10_ : ((cdayOkF (csplit0F (FloatKind.nearest .f64 (cjoin0F Y M D ho mi S W J))) (csplit1F (FloatKind.nearest .f64 (cjoin0F Y M D ho mi S W J))) (csplit2F (FloatKind.nearest .f64 (cjoin0F Y M D ho mi S W J))))) = true := by
         simp only [c0_, c1_, c2_, c3_, c4_, c5_, c6_, c7_, c8_, c9_, Bool.and_eq_true, Bool.not_eq_true', cond_true, cond_false] at hok
         exact hok.1
        replace hok := by
         simp only [c0_, c1_, c2_, c3_, c4_, c5_, c6_, c7_, c8_, c9_, c10_, Bool.not_true, Bool.not_false, Bool.true_and, cond_true, cond_false] at hok
         exact hok
        obtain ⟨c11_, hok⟩ := aO hok
        unfold norm0F norm1F norm2F norm3F norm4F norm5F norm6F norm7F norm8F norm9F norm10F norm11F norm12F norm13F nrmT
        simp only [c0_, c1_, c2_, c3_, c4_, c5_, c6_, c7_, c8_, c9_, c10_, c11_, cond_true, cond_false]
        exact oS ((hkW laG lpE)) (m := (bitsN 40 1078036791295)) (p := (bitsN 34 1073741824)) (aC (bT c0_) (aC (bF c1_) (aC (bT c2_) (C6 (bF c3_) (C6 (bF c4_) (C6 (bF c5_) (C6 (bF c6_) (C5 (bF c7_) (aC c8_ (C2 (bF c7_) (aC (bF c9_) (aC (bT c10_) (aC (bT c11_) aN)))))))))))))
def normV (args : Array Value) : Option Value := match args.toList with
 | [.agg a0_] => match a0_.toList with | [.int .i64 Y, .int .i64 M, .int .i64 D, .int .i64 ho, .int .i64 mi, .float .f64 S, .int .i64 W, .int .i64 J] => some (Value.tuple #[(Value.agg #[(Value.int IntKind.i64 (norm0F Y M D ho mi S W J)), (Value.int IntKind.i64 (norm1F Y M D ho mi S W J)), (Value.int IntKind.i64 (norm2F Y M D ho mi S W J)), (Value.int IntKind.i64 (norm3F Y M D ho mi S W J)), (Value.int IntKind.i64 (norm4F Y M D ho mi S W J)), (Value.float FloatKind.f64 (norm5F Y M D ho mi S W J)), (Value.int IntKind.i64 (norm6F Y M D ho mi S W J)), (Value.int IntKind.i64 (norm7F Y M D ho mi S W J)), (Value.int IntKind.i64 (norm8F Y M D ho mi S W J)), (Value.int IntKind.i64 (norm9F Y M D ho mi S W J)), (Value.int IntKind.i64 (norm10F Y M D ho mi S W J)), (Value.int IntKind.i64 (norm11F Y M D ho mi S W J)), (Value.int IntKind.i64 (norm12F Y M D ho mi S W J))]), (Value.bool (norm13F Y M D ho mi S W J))]) | _ => none
 | _ => none
def normK (args : Array Value) : Bool := match args.toList with
 | [.agg a0_] => match a0_.toList with | [.int .i64 Y, .int .i64 M, .int .i64 D, .int .i64 ho, .int .i64 mi, .float .f64 S, .int .i64 W, .int .i64 J] => (normOkF Y M D ho mi S W J == true) | _ => false
 | _ => false
def normA : AFn := { f := 33, val := normV, ok := normK }
theorem norm_sound : PSound cx0 normA.pfn := psound_startW laG_sound lpE_sound fun args v h => by
 obtain ⟨hv, hk⟩ := afn_some h
 replace hv : normV args = some v := hv
 replace hk : normK args = true := hk
 unfold normV at hv
 split at hv
 ·rename_i a0_ hx
  have ha := args_list hx
  subst ha
  split at hv
  ·rename_i Y M D ho mi S W J hx0
   have ha0 := args_list hx0
   subst ha0
   cases hv
   have hok : normOkF Y M D ho mi S W J = true := by simpa [normK] using hk
   exact ⟨rfl, rfl, 30, norm_ev Y M D ho mi S W J hok⟩
  ·cases hv
 ·cases hv
end Go.Proofs.YthopphfehgdocaaGreatDoor
