import Derived.Test.YthopphfehgdocaaGreatDoorRef3
import Derived.Test.YthopphfehgdocaaGreatDoorRef4
import Derived.Test.YthopphfehgdocaaGreatDoorRefJ
set_option linter.unusedSimpArgs false
set_option linter.unusedVariables false
namespace Go.Proofs.YthopphfehgdocaaGreatDoor
open Go Go.RowKit Go.Ev Go.Proofs Go.Shelf
def cjoin0F (Y M D ho mi : Int) (S : Nat) (W J : Int) : Int := (bif (decide (Y < ((-1000000000 : Int)))) then 0 else (bif (decide (Y > 1000000000)) then 0 else (bif (decide (M < ((-1000000000 : Int)))) then 0 else (bif (decide (M > 1000000000)) then 0 else (bif (decide (D < ((-1000000000 : Int)))) then 0 else (bif (decide (D > 1000000000)) then 0 else (bif (decide (ho < ((-1000000000 : Int)))) then 0 else (bif (decide (ho > 1000000000)) then 0 else (bif (decide (mi < ((-1000000000 : Int)))) then 0 else (bif (decide (mi > 1000000000)) then 0 else (bif (decide ((IntKind.i64.wrap (Y + (IntKind.i64.wrap (M / 12)))) < ((-9999 : Int)))) then 0 else (bif (decide ((IntKind.i64.wrap (Y + (IntKind.i64.wrap (M / 12)))) > 9999)) then 0 else (bif ((Ieee.Format.order (FloatKind.f64.format) S S) != (some Ordering.eq)) then 0 else (bif ((Ieee.Format.order (FloatKind.f64.format) (Int.toNat (IntKind.u64.wrap ((((BitVec.toNat ((BitVec.ofInt 64 (((S : Nat) : Int))) &&& (~~~(BitVec.ofInt 64 9223372036854775808)))) : Nat) : Int)))) 4741671816366391296) == (some Ordering.gt)) then 0 else (bif (decide ((IntKind.i64.wrap ((IntKind.i64.wrap ((IntKind.i64.wrap ((IntKind.i64.wrap ((IntKind.i64.wrap ((IntKind.i64.wrap ((IntKind.i64.wrap ((numdF (IntKind.i64.wrap (Y + (IntKind.i64.wrap (M / 12)))) (M % 12) 1) + D)) - 1)) * 86400)) + (IntKind.i64.wrap (ho * 3600)))) + (IntKind.i64.wrap (mi * 60)))) + (f2i FloatKind.f64 (fround .down S)))) / 86400)) < ((-4371587 : Int)))) then 0 else (bif (decide ((IntKind.i64.wrap ((IntKind.i64.wrap ((IntKind.i64.wrap ((IntKind.i64.wrap ((IntKind.i64.wrap ((IntKind.i64.wrap ((IntKind.i64.wrap ((numdF (IntKind.i64.wrap (Y + (IntKind.i64.wrap (M / 12)))) (M % 12) 1) + D)) - 1)) * 86400)) + (IntKind.i64.wrap (ho * 3600)))) + (IntKind.i64.wrap (mi * 60)))) + (f2i FloatKind.f64 (fround .down S)))) / 86400)) > 2932896)) then 0 else (IntKind.i64.wrap ((IntKind.i64.wrap ((IntKind.i64.wrap ((IntKind.i64.wrap ((IntKind.i64.wrap ((IntKind.i64.wrap ((numdF (IntKind.i64.wrap (Y + (IntKind.i64.wrap (M / 12)))) (M % 12) 1) + D)) - 1)) * 86400)) + (IntKind.i64.wrap (ho * 3600)))) + (IntKind.i64.wrap (mi * 60)))) + (f2i FloatKind.f64 (fround .down S))))))))))))))))))))
def cjoin1F (Y M D ho mi : Int) (S : Nat) (W J : Int) : Int := (bif (decide (Y < ((-1000000000 : Int)))) then 110 else (bif (decide (Y > 1000000000)) then 110 else (bif (decide (M < ((-1000000000 : Int)))) then 110 else (bif (decide (M > 1000000000)) then 110 else (bif (decide (D < ((-1000000000 : Int)))) then 110 else (bif (decide (D > 1000000000)) then 110 else (bif (decide (ho < ((-1000000000 : Int)))) then 110 else (bif (decide (ho > 1000000000)) then 110 else (bif (decide (mi < ((-1000000000 : Int)))) then 110 else (bif (decide (mi > 1000000000)) then 110 else (bif (decide ((IntKind.i64.wrap (Y + (IntKind.i64.wrap (M / 12)))) < ((-9999 : Int)))) then 110 else (bif (decide ((IntKind.i64.wrap (Y + (IntKind.i64.wrap (M / 12)))) > 9999)) then 110 else (bif ((Ieee.Format.order (FloatKind.f64.format) S S) != (some Ordering.eq)) then 110 else (bif ((Ieee.Format.order (FloatKind.f64.format) (Int.toNat (IntKind.u64.wrap ((((BitVec.toNat ((BitVec.ofInt 64 (((S : Nat) : Int))) &&& (~~~(BitVec.ofInt 64 9223372036854775808)))) : Nat) : Int)))) 4741671816366391296) == (some Ordering.gt)) then 110 else (bif (decide ((IntKind.i64.wrap ((IntKind.i64.wrap ((IntKind.i64.wrap ((IntKind.i64.wrap ((IntKind.i64.wrap ((IntKind.i64.wrap ((IntKind.i64.wrap ((numdF (IntKind.i64.wrap (Y + (IntKind.i64.wrap (M / 12)))) (M % 12) 1) + D)) - 1)) * 86400)) + (IntKind.i64.wrap (ho * 3600)))) + (IntKind.i64.wrap (mi * 60)))) + (f2i FloatKind.f64 (fround .down S)))) / 86400)) < ((-4371587 : Int)))) then 110 else (bif (decide ((IntKind.i64.wrap ((IntKind.i64.wrap ((IntKind.i64.wrap ((IntKind.i64.wrap ((IntKind.i64.wrap ((IntKind.i64.wrap ((IntKind.i64.wrap ((numdF (IntKind.i64.wrap (Y + (IntKind.i64.wrap (M / 12)))) (M % 12) 1) + D)) - 1)) * 86400)) + (IntKind.i64.wrap (ho * 3600)))) + (IntKind.i64.wrap (mi * 60)))) + (f2i FloatKind.f64 (fround .down S)))) / 86400)) > 2932896)) then 110 else 0))))))))))))))))
def cjoinOkF (Y M D ho mi : Int) (S : Nat) (W J : Int) : Bool := (bif (decide (Y < ((-1000000000 : Int)))) then true else (bif (decide (Y > 1000000000)) then true else (bif (decide (M < ((-1000000000 : Int)))) then true else (bif (decide (M > 1000000000)) then true else (bif (decide (D < ((-1000000000 : Int)))) then true else (bif (decide (D > 1000000000)) then true else (bif (decide (ho < ((-1000000000 : Int)))) then true else (bif (decide (ho > 1000000000)) then true else (bif (decide (mi < ((-1000000000 : Int)))) then true else (bif (decide (mi > 1000000000)) then true else (bif (decide ((IntKind.i64.wrap (Y + (IntKind.i64.wrap (M / 12)))) < ((-9999 : Int)))) then true else (bif (decide ((IntKind.i64.wrap (Y + (IntKind.i64.wrap (M / 12)))) > 9999)) then true else (bif ((Ieee.Format.order (FloatKind.f64.format) S S) != (some Ordering.eq)) then true else (bif ((Ieee.Format.order (FloatKind.f64.format) (Int.toNat (IntKind.u64.wrap ((((BitVec.toNat ((BitVec.ofInt 64 (((S : Nat) : Int))) &&& (~~~(BitVec.ofInt 64 9223372036854775808)))) : Nat) : Int)))) 4741671816366391296) == (some Ordering.gt)) then true else (((numOkF (IntKind.i64.wrap (Y + (IntKind.i64.wrap (M / 12)))) (M % 12) 1)) && (((froundOk S)) && (((f2iOk FloatKind.f64 (fround .down S) IntKind.i64)) && true)))))))))))))))))
theorem cjoin_ev (Y M D ho mi : Int) (S : Nat) (W J : Int) (hok : cjoinOkF Y M D ho mi S W J = true) : ∃ H' nx', evFunc (withFns cx0 laE lpE) 30 63 #[tmA Y M D ho mi S W J] H0 12 = some ((Value.tuple #[(Value.int IntKind.i64 (cjoin0F Y M D ho mi S W J)), (Value.int IntKind.i64 (cjoin1F Y M D ho mi S W J))]), H', nx') := by
 unfold cjoinOkF at hok
 cases c0_ : ((decide (Y < ((-1000000000 : Int))))) with
 | true =>
  unfold cjoin0F cjoin1F
  simp only [c0_, cond_true, cond_false]
  exact oS ((hkW laE lpE)) (m := [false, true, true, true]) (p := (bitsN 5 31)) (C3 (bT c0_) aN)
 | false =>
  cases c1_ : ((decide (Y > 1000000000))) with
  | true =>
   unfold cjoin0F cjoin1F
   simp only [c0_, c1_, cond_true, cond_false]
   exact oS ((hkW laE lpE)) (m := (bitsN 5 30)) (p := (bitsN 5 17)) (C3 (bF c0_) (aC (bT c1_) aN))
  | false =>
   cases c2_ : ((decide (M < ((-1000000000 : Int))))) with
   | true =>
    unfold cjoin0F cjoin1F
    simp only [c0_, c1_, c2_, cond_true, cond_false]
    exact oS ((hkW laE lpE)) (m := (bitsN 9 478)) (p := (bitsN 10 993)) (C3 (bF c0_) (aC (bF c1_) (C3 (bT c2_) aN)))
   | false =>
    cases c3_ : ((decide (M > 1000000000))) with
    | true =>
     unfold cjoin0F cjoin1F
     simp only [c0_, c1_, c2_, c3_, cond_true, cond_false]
     exact oS ((hkW laE lpE)) (m := (bitsN 10 990)) (p := (bitsN 10 545)) (C3 (bF c0_) (aC (bF c1_) (C3 (bF c2_) (aC (bT c3_) aN))))
    | false =>
     cases c4_ : ((decide (D < ((-1000000000 : Int))))) with
     | true =>
      unfold cjoin0F cjoin1F
      simp only [c0_, c1_, c2_, c3_, c4_, cond_true, cond_false]
      exact oS ((hkW laE lpE)) (m := (bitsN 14 15326)) (p := (bitsN 15 31777)) (C3 (bF c0_) (aC (bF c1_) (C3 (bF c2_) (aC (bF c3_) (C3 (bT c4_) aN)))))
     | false =>
      cases c5_ : ((decide (D > 1000000000))) with
      | true =>
       unfold cjoin0F cjoin1F
       simp only [c0_, c1_, c2_, c3_, c4_, c5_, cond_true, cond_false]
       exact oS ((hkW laE lpE)) (m := (bitsN 15 31710)) (p := (bitsN 15 17441)) (C3 (bF c0_) (aC (bF c1_) (C3 (bF c2_) (aC (bF c3_) (C3 (bF c4_) (aC (bT c5_) aN))))))
      | false =>
       cases c6_ : ((decide (ho < ((-1000000000 : Int))))) with
       | true =>
        unfold cjoin0F cjoin1F
        simp only [c0_, c1_, c2_, c3_, c4_, c5_, c6_, cond_true, cond_false]
        exact oS ((hkW laE lpE)) (m := (bitsN 19 490462)) (p := (bitsN 20 1016865)) (C3 (bF c0_) (aC (bF c1_) (C3 (bF c2_) (aC (bF c3_) (C3 (bF c4_) (aC (bF c5_) (C3 (bT c6_) aN)))))))
       | false =>
        cases c7_ : ((decide (ho > 1000000000))) with
        | true =>
         unfold cjoin0F cjoin1F
         simp only [c0_, c1_, c2_, c3_, c4_, c5_, c6_, c7_, cond_true, cond_false]
         exact oS ((hkW laE lpE)) (m := (bitsN 20 1014750)) (p := (bitsN 20 558113)) (C3 (bF c0_) (aC (bF c1_) (C3 (bF c2_) (aC (bF c3_) (C3 (bF c4_) (aC (bF c5_) (C3 (bF c6_) (aC (bT c7_) aN))))))))
        | false =>
         cases c8_ : ((decide (mi < ((-1000000000 : Int))))) with
         | true =>
          unfold cjoin0F cjoin1F
          simp only [c0_, c1_, c2_, c3_, c4_, c5_, c6_, c7_, c8_, cond_true, cond_false]
          exact oS ((hkW laE lpE)) (m := (bitsN 24 15694814)) (p := (bitsN 25 32539681)) (C3 (bF c0_) (aC (bF c1_) (C3 (bF c2_) (aC (bF c3_) (C3 (bF c4_) (aC (bF c5_) (C3 (bF c6_) (aC (bF c7_) (C3 (bT c8_) aN)))))))))
         | false =>
          cases c9_ : ((decide (mi > 1000000000))) with
          | true =>
           unfold cjoin0F cjoin1F
           simp only [c0_, c1_, c2_, c3_, c4_, c5_, c6_, c7_, c8_, c9_, cond_true, cond_false]
           exact oS ((hkW laE lpE)) (m := (bitsN 25 32472030)) (p := (bitsN 25 17859617)) (C3 (bF c0_) (aC (bF c1_) (C3 (bF c2_) (aC (bF c3_) (C3 (bF c4_) (aC (bF c5_) (C3 (bF c6_) (aC (bF c7_) (C3 (bF c8_) (aC (bT c9_) aN))))))))))
          | false =>
           cases c10_ : ((decide ((IntKind.i64.wrap (Y + (IntKind.i64.wrap (M / 12)))) < ((-9999 : Int))))) with
           | true =>
            unfold cjoin0F cjoin1F
            simp only [c0_, c1_, c2_, c3_, c4_, c5_, c6_, c7_, c8_, c9_, c10_, cond_true, cond_false]
            exact oS ((hkW laE lpE)) (m := (bitsN 29 502234078)) (p := (bitsN 39 549689787425)) (C3 (bF c0_) (aC (bF c1_) (C3 (bF c2_) (aC (bF c3_) (C3 (bF c4_) (aC (bF c5_) (C3 (bF c6_) (aC (bF c7_) (C3 (bF c8_) (aC (bF c9_) (C3 (bT c10_) aN)))))))))))
           | false =>
            cases c11_ : ((decide ((IntKind.i64.wrap (Y + (IntKind.i64.wrap (M / 12)))) > 9999))) with
            | true =>
             unfold cjoin0F cjoin1F
             simp only [c0_, c1_, c2_, c3_, c4_, c5_, c6_, c7_, c8_, c9_, c10_, c11_, cond_true, cond_false]
             exact oS ((hkW laE lpE)) (m := (bitsN 33 8555297758)) (p := (bitsN 39 549220025377)) (C3 (bF c0_) (aC (bF c1_) (C3 (bF c2_) (aC (bF c3_) (C3 (bF c4_) (aC (bF c5_) (C3 (bF c6_) (aC (bF c7_) (C3 (bF c8_) (aC (bF c9_) (C3 (bF c10_) (C4 (bT c11_) aN))))))))))))
            | false =>
             cases c12_ : (((Ieee.Format.order (FloatKind.f64.format) S S) != (some Ordering.eq))) with
             | true =>
              unfold cjoin0F cjoin1F
              simp only [c0_, c1_, c2_, c3_, c4_, c5_, c6_, c7_, c8_, c9_, c10_, c11_, c12_, cond_true, cond_false]
              exact oS ((hkW laE lpE)) (m := (bitsN 38 274843270110)) (p := (bitsN 39 541166961697)) (C3 (bF c0_) (aC (bF c1_) (C3 (bF c2_) (aC (bF c3_) (C3 (bF c4_) (aC (bF c5_) (C3 (bF c6_) (aC (bF c7_) (C3 (bF c8_) (aC (bF c9_) (C3 (bF c10_) (C4 (bF c11_) (C5 (bT c12_) aN)))))))))))))
             | false =>
              cases c13_ : (((Ieee.Format.order (FloatKind.f64.format) (Int.toNat (IntKind.u64.wrap ((((BitVec.toNat ((BitVec.ofInt 64 (((S : Nat) : Int))) &&& (~~~(BitVec.ofInt 64 9223372036854775808)))) : Nat) : Int)))) 4741671816366391296) == (some Ordering.gt))) with
              | true =>
               unfold cjoin0F cjoin1F
               simp only [c0_, c1_, c2_, c3_, c4_, c5_, c6_, c7_, c8_, c9_, c10_, c11_, c12_, c13_, cond_true, cond_false]
               exact oS ((hkW laE lpE)) (m := (bitsN 39 549721177054)) (p := (bitsN 39 274878989345)) (C3 (bF c0_) (aC (bF c1_) (C3 (bF c2_) (aC (bF c3_) (C3 (bF c4_) (aC (bF c5_) (C3 (bF c6_) (aC (bF c7_) (C3 (bF c8_) (aC (bF c9_) (C3 (bF c10_) (C4 (bF c11_) (C5 (bF c12_) (aC (bT c13_) aN))))))))))))))
              | false =>
               have c14_ : ((numOkF (IntKind.i64.wrap (Y + (IntKind.i64.wrap (M / 12)))) (M % 12) 1)) = true := by
                simp only [c0_, c1_, c2_, c3_, c4_, c5_, c6_, c7_, c8_, c9_, c10_, c11_, c12_, c13_, Bool.and_eq_true, Bool.not_eq_true', cond_true, cond_false] at hok
                exact hok.1
               replace hok := by
                simp only [c0_, c1_, c2_, c3_, c4_, c5_, c6_, c7_, c8_, c9_, c10_, c11_, c12_, c13_, c14_, Bool.not_true, Bool.not_false, Bool.true_and, cond_true, cond_false] at hok
                exact hok
               obtain ⟨c15_, hok⟩ := aO hok
               obtain ⟨c16_, hok⟩ := aO hok
               cases c17_ : ((decide ((IntKind.i64.wrap ((IntKind.i64.wrap ((IntKind.i64.wrap ((IntKind.i64.wrap ((IntKind.i64.wrap ((IntKind.i64.wrap ((IntKind.i64.wrap ((numdF (IntKind.i64.wrap (Y + (IntKind.i64.wrap (M / 12)))) (M % 12) 1) + D)) - 1)) * 86400)) + (IntKind.i64.wrap (ho * 3600)))) + (IntKind.i64.wrap (mi * 60)))) + (f2i FloatKind.f64 (fround .down S)))) / 86400)) < ((-4371587 : Int))))) with
               | true =>
                unfold cjoin0F cjoin1F
                simp only [c0_, c1_, c2_, c3_, c4_, c5_, c6_, c7_, c8_, c9_, c10_, c11_, c12_, c13_, c14_, c15_, c16_, c17_, cond_true, cond_false]
                exact oS ((hkW laE lpE)) (m := (bitsN 56 63649628585688030)) (p := (bitsN 44 17042431312929)) (C3 (bF c0_) (aC (bF c1_) (C3 (bF c2_) (aC (bF c3_) (C3 (bF c4_) (aC (bF c5_) (C3 (bF c6_) (aC (bF c7_) (C3 (bF c8_) (aC (bF c9_) (C3 (bF c10_) (C4 (bF c11_) (C5 (bF c12_) (aC (bF c13_) (aC (bT c14_) (aC c15_ (aC c16_ (C3 (bT c17_) aN))))))))))))))))))
               | false =>
                cases c18_ : ((decide ((IntKind.i64.wrap ((IntKind.i64.wrap ((IntKind.i64.wrap ((IntKind.i64.wrap ((IntKind.i64.wrap ((IntKind.i64.wrap ((IntKind.i64.wrap ((numdF (IntKind.i64.wrap (Y + (IntKind.i64.wrap (M / 12)))) (M % 12) 1) + D)) - 1)) * 86400)) + (IntKind.i64.wrap (ho * 3600)))) + (IntKind.i64.wrap (mi * 60)))) + (f2i FloatKind.f64 (fround .down S)))) / 86400)) > 2932896))) with
                | true =>
                 unfold cjoin0F cjoin1F
                 simp only [c0_, c1_, c2_, c3_, c4_, c5_, c6_, c7_, c8_, c9_, c10_, c11_, c12_, c13_, c14_, c15_, c16_, c17_, c18_, cond_true, cond_false]
                 exact oS ((hkW laE lpE)) (m := (bitsN 57 135707222623615966)) (p := (bitsN 44 9345849918497)) (C3 (bF c0_) (aC (bF c1_) (C3 (bF c2_) (aC (bF c3_) (C3 (bF c4_) (aC (bF c5_) (C3 (bF c6_) (aC (bF c7_) (C3 (bF c8_) (aC (bF c9_) (C3 (bF c10_) (C4 (bF c11_) (C5 (bF c12_) (aC (bF c13_) (aC (bT c14_) (aC c15_ (aC c16_ (C3 (bF c17_) (aC (bT c18_) aN)))))))))))))))))))
                | false =>
                 unfold cjoin0F cjoin1F
                 simp only [c0_, c1_, c2_, c3_, c4_, c5_, c6_, c7_, c8_, c9_, c10_, c11_, c12_, c13_, c14_, c15_, c16_, c17_, c18_, cond_true, cond_false]
                 exact oS ((hkW laE lpE)) (m := (bitsN 57 135707222623615966)) (p := (bitsN 44 549756896289)) (C3 (bF c0_) (aC (bF c1_) (C3 (bF c2_) (aC (bF c3_) (C3 (bF c4_) (aC (bF c5_) (C3 (bF c6_) (aC (bF c7_) (C3 (bF c8_) (aC (bF c9_) (C3 (bF c10_) (C4 (bF c11_) (C5 (bF c12_) (aC (bF c13_) (aC (bT c14_) (aC c15_ (aC c16_ (C3 (bF c17_) (aC (bF c18_) aN)))))))))))))))))))
def cjoinV (args : Array Value) : Option Value := match args.toList with
 | [.agg a0_] => match a0_.toList with | [.int .i64 Y, .int .i64 M, .int .i64 D, .int .i64 ho, .int .i64 mi, .float .f64 S, .int .i64 W, .int .i64 J] => some (Value.tuple #[(Value.int IntKind.i64 (cjoin0F Y M D ho mi S W J)), (Value.int IntKind.i64 (cjoin1F Y M D ho mi S W J))]) | _ => none
 | _ => none
def cjoinK (args : Array Value) : Bool := match args.toList with
 | [.agg a0_] => match a0_.toList with | [.int .i64 Y, .int .i64 M, .int .i64 D, .int .i64 ho, .int .i64 mi, .float .f64 S, .int .i64 W, .int .i64 J] => (cjoinOkF Y M D ho mi S W J == true) | _ => false
 | _ => false
def cjoinA : AFn := { f := 63, val := cjoinV, ok := cjoinK }
theorem cjoin_sound : PSound cx0 cjoinA.pfn := psound_startW laE_sound lpE_sound fun args v h => by
 obtain ⟨hv, hk⟩ := afn_some h
 replace hv : cjoinV args = some v := hv
 replace hk : cjoinK args = true := hk
 unfold cjoinV at hv
 split at hv
 ·rename_i a0_ hx
  have ha := args_list hx
  subst ha
  split at hv
  ·rename_i Y M D ho mi S W J hx0
   have ha0 := args_list hx0
   subst ha0
   cases hv
   have hok : cjoinOkF Y M D ho mi S W J = true := by simpa [cjoinK] using hk
   exact ⟨rfl, rfl, 30, cjoin_ev Y M D ho mi S W J hok⟩
  ·cases hv
 ·cases hv
def laG : List AFn := [numberA2, beginA2, cdayA, cwksA, rdayA, rwksA, csplitA, rsplitA, rjoinA, cjoinA]
theorem laG_sound : ∀ e ∈ laG, PSound cx0 e.pfn := asound_cons number2_sound (asound_cons begin2_sound (asound_cons cday_sound (asound_cons cwks_sound (asound_cons rday_sound (asound_cons rwks_sound (asound_cons csplit_sound (asound_cons rsplit_sound (asound_cons rjoin_sound (asound_cons cjoin_sound asound_nil)))))))))
end Go.Proofs.YthopphfehgdocaaGreatDoor
