import Derived.Test.YthopphfehgdocaaGreatDoorRef3
set_option linter.unusedSimpArgs false
set_option linter.unusedVariables false
namespace Go.Proofs.YthopphfehgdocaaGreatDoor
open Go Go.RowKit Go.Ev Go.Proofs Go.Shelf
def rjoin0F (Y M D ho mi : Int) (S : Nat) (W J : Int) : Int := (bif (decide (Y ≥ ((-1000000000 : Int)))) then (bif (!(decide (Y ≤ 1000000000))) then 0 else (bif (decide (M ≥ ((-1000000000 : Int)))) then (bif (!(decide (M ≤ 1000000000))) then 0 else (bif (decide (D ≥ ((-1000000000 : Int)))) then (bif (!(decide (D ≤ 1000000000))) then 0 else (bif (decide (ho ≥ ((-1000000000 : Int)))) then (bif (!(decide (ho ≤ 1000000000))) then 0 else (bif (decide (mi ≥ ((-1000000000 : Int)))) then (bif (!(decide (mi ≤ 1000000000))) then 0 else (bif (((Ieee.Format.order (FloatKind.f64.format) S 13965043853221167104) == (some Ordering.gt)) || ((Ieee.Format.order (FloatKind.f64.format) S 13965043853221167104) == (some Ordering.eq))) then (bif (!(((Ieee.Format.order (FloatKind.f64.format) S 4741671816366391296) == (some Ordering.lt)) || ((Ieee.Format.order (FloatKind.f64.format) S 4741671816366391296) == (some Ordering.eq)))) then 0 else (bif (decide ((IntKind.i64.wrap (Y + (IntKind.i64.wrap (M / 12)))) ≥ ((-9999 : Int)))) then (bif (!(decide ((IntKind.i64.wrap (Y + (IntKind.i64.wrap (M / 12)))) ≤ 9999))) then 0 else (bif (decide ((IntKind.i64.wrap ((IntKind.i64.wrap ((IntKind.i64.wrap ((IntKind.i64.wrap ((IntKind.i64.wrap ((IntKind.i64.wrap ((IntKind.i64.wrap ((numF (IntKind.i64.wrap (Y + (IntKind.i64.wrap (M / 12)))) (M % 12)) + D)) - 1)) * 86400)) + (IntKind.i64.wrap (ho * 3600)))) + (IntKind.i64.wrap (mi * 60)))) + (f2i FloatKind.f64 (fround .down S)))) / 86400)) < ((-4371587 : Int)))) then 0 else (bif (decide ((IntKind.i64.wrap ((IntKind.i64.wrap ((IntKind.i64.wrap ((IntKind.i64.wrap ((IntKind.i64.wrap ((IntKind.i64.wrap ((IntKind.i64.wrap ((numF (IntKind.i64.wrap (Y + (IntKind.i64.wrap (M / 12)))) (M % 12)) + D)) - 1)) * 86400)) + (IntKind.i64.wrap (ho * 3600)))) + (IntKind.i64.wrap (mi * 60)))) + (f2i FloatKind.f64 (fround .down S)))) / 86400)) > 2932896)) then 0 else (IntKind.i64.wrap ((IntKind.i64.wrap ((IntKind.i64.wrap ((IntKind.i64.wrap ((IntKind.i64.wrap ((IntKind.i64.wrap ((numF (IntKind.i64.wrap (Y + (IntKind.i64.wrap (M / 12)))) (M % 12)) + D)) - 1)) * 86400)) + (IntKind.i64.wrap (ho * 3600)))) + (IntKind.i64.wrap (mi * 60)))) + (f2i FloatKind.f64 (fround .down S))))))) else 0)) else 0)) else 0)) else 0)) else 0)) else 0)) else 0)
def rjoin1F (Y M D ho mi : Int) (S : Nat) (W J : Int) : Int := (bif (decide (Y ≥ ((-1000000000 : Int)))) then (bif (!(decide (Y ≤ 1000000000))) then 110 else (bif (decide (M ≥ ((-1000000000 : Int)))) then (bif (!(decide (M ≤ 1000000000))) then 110 else (bif (decide (D ≥ ((-1000000000 : Int)))) then (bif (!(decide (D ≤ 1000000000))) then 110 else (bif (decide (ho ≥ ((-1000000000 : Int)))) then (bif (!(decide (ho ≤ 1000000000))) then 110 else (bif (decide (mi ≥ ((-1000000000 : Int)))) then (bif (!(decide (mi ≤ 1000000000))) then 110 else (bif (((Ieee.Format.order (FloatKind.f64.format) S 13965043853221167104) == (some Ordering.gt)) || ((Ieee.Format.order (FloatKind.f64.format) S 13965043853221167104) == (some Ordering.eq))) then (bif (!(((Ieee.Format.order (FloatKind.f64.format) S 4741671816366391296) == (some Ordering.lt)) || ((Ieee.Format.order (FloatKind.f64.format) S 4741671816366391296) == (some Ordering.eq)))) then 110 else (bif (decide ((IntKind.i64.wrap (Y + (IntKind.i64.wrap (M / 12)))) ≥ ((-9999 : Int)))) then (bif (!(decide ((IntKind.i64.wrap (Y + (IntKind.i64.wrap (M / 12)))) ≤ 9999))) then 110 else (bif (decide ((IntKind.i64.wrap ((IntKind.i64.wrap ((IntKind.i64.wrap ((IntKind.i64.wrap ((IntKind.i64.wrap ((IntKind.i64.wrap ((IntKind.i64.wrap ((numF (IntKind.i64.wrap (Y + (IntKind.i64.wrap (M / 12)))) (M % 12)) + D)) - 1)) * 86400)) + (IntKind.i64.wrap (ho * 3600)))) + (IntKind.i64.wrap (mi * 60)))) + (f2i FloatKind.f64 (fround .down S)))) / 86400)) < ((-4371587 : Int)))) then 110 else (bif (decide ((IntKind.i64.wrap ((IntKind.i64.wrap ((IntKind.i64.wrap ((IntKind.i64.wrap ((IntKind.i64.wrap ((IntKind.i64.wrap ((IntKind.i64.wrap ((numF (IntKind.i64.wrap (Y + (IntKind.i64.wrap (M / 12)))) (M % 12)) + D)) - 1)) * 86400)) + (IntKind.i64.wrap (ho * 3600)))) + (IntKind.i64.wrap (mi * 60)))) + (f2i FloatKind.f64 (fround .down S)))) / 86400)) > 2932896)) then 110 else 0))) else 110)) else 110)) else 110)) else 110)) else 110)) else 110)) else 110)
def rjoinOkF (Y M D ho mi : Int) (S : Nat) (W J : Int) : Bool := (bif (decide (Y ≥ ((-1000000000 : Int)))) then (bif (!(decide (Y ≤ 1000000000))) then true else (bif (decide (M ≥ ((-1000000000 : Int)))) then (bif (!(decide (M ≤ 1000000000))) then true else (bif (decide (D ≥ ((-1000000000 : Int)))) then (bif (!(decide (D ≤ 1000000000))) then true else (bif (decide (ho ≥ ((-1000000000 : Int)))) then (bif (!(decide (ho ≤ 1000000000))) then true else (bif (decide (mi ≥ ((-1000000000 : Int)))) then (bif (!(decide (mi ≤ 1000000000))) then true else (bif (((Ieee.Format.order (FloatKind.f64.format) S 13965043853221167104) == (some Ordering.gt)) || ((Ieee.Format.order (FloatKind.f64.format) S 13965043853221167104) == (some Ordering.eq))) then (bif (!(((Ieee.Format.order (FloatKind.f64.format) S 4741671816366391296) == (some Ordering.lt)) || ((Ieee.Format.order (FloatKind.f64.format) S 4741671816366391296) == (some Ordering.eq)))) then true else (bif (decide ((IntKind.i64.wrap (Y + (IntKind.i64.wrap (M / 12)))) ≥ ((-9999 : Int)))) then (bif (!(decide ((IntKind.i64.wrap (Y + (IntKind.i64.wrap (M / 12)))) ≤ 9999))) then true else (((beginOkF (IntKind.i64.wrap (Y + (IntKind.i64.wrap (M / 12)))) (M % 12))) && (((froundOk S)) && (((f2iOk FloatKind.f64 (fround .down S) IntKind.i64)) && true)))) else true)) else true)) else true)) else true)) else true)) else true)) else true)
theorem rjoin_ev (Y M D ho mi : Int) (S : Nat) (W J : Int) (hok : rjoinOkF Y M D ho mi S W J = true) : ∃ H' nx', evFunc (withFns cx0 laE lpE) 30 52 #[tmA Y M D ho mi S W J] H0 12 = some ((Value.tuple #[(Value.int IntKind.i64 (rjoin0F Y M D ho mi S W J)), (Value.int IntKind.i64 (rjoin1F Y M D ho mi S W J))]), H', nx') := by
 unfold rjoinOkF at hok
 cases c0_ : ((decide (Y ≥ ((-1000000000 : Int))))) with
 | true =>
  cases c1_ : ((!(decide (Y ≤ 1000000000)))) with
  | true =>
   unfold rjoin0F rjoin1F
   simp only [c0_, c1_, cond_true, cond_false]
   exact oS ((hkW laE lpE)) (m := (bitsN 8 255)) (p := (bitsN 31 2147483647)) (C3 (bT c0_) (C5 (bT c1_) aN))
  | false =>
   cases c2_ : ((decide (M ≥ ((-1000000000 : Int))))) with
   | true =>
    cases c3_ : ((!(decide (M ≤ 1000000000)))) with
    | true =>
     unfold rjoin0F rjoin1F
     simp only [c0_, c1_, c2_, c3_, cond_true, cond_false]
     exact oS ((hkW laE lpE)) (m := (bitsN 16 65535)) (p := (bitsN 34 17179867591)) (C3 (bT c0_) (C3 (bF c1_) (C3 (bT c2_) (C2 (bF c1_) (C5 (bT c3_) aN)))))
    | false =>
     cases c4_ : ((decide (D ≥ ((-1000000000 : Int))))) with
     | true =>
      cases c5_ : ((!(decide (D ≤ 1000000000)))) with
      | true =>
       unfold rjoin0F rjoin1F
       simp only [c0_, c1_, c2_, c3_, c4_, c5_, cond_true, cond_false]
       exact oS ((hkW laE lpE)) (m := (bitsN 24 16777215)) (p := (bitsN 37 137438544327)) (C3 (bT c0_) (C3 (bF c1_) (C3 (bT c2_) (C2 (bF c1_) (C3 (bF c3_) (C3 (bT c4_) (C2 (bF c3_) (C5 (bT c5_) aN))))))))
      | false =>
       cases c6_ : ((decide (ho ≥ ((-1000000000 : Int))))) with
       | true =>
        cases c7_ : ((!(decide (ho ≤ 1000000000)))) with
        | true =>
         unfold rjoin0F rjoin1F
         simp only [c0_, c1_, c2_, c3_, c4_, c5_, c6_, c7_, cond_true, cond_false]
         exact oS ((hkW laE lpE)) (m := (bitsN 32 4294967295)) (p := (bitsN 40 1099406885319)) (C3 (bT c0_) (C3 (bF c1_) (C3 (bT c2_) (C2 (bF c1_) (C3 (bF c3_) (C3 (bT c4_) (C2 (bF c3_) (C3 (bF c5_) (C3 (bT c6_) (C2 (bF c5_) (C5 (bT c7_) aN)))))))))))
        | false =>
         cases c8_ : ((decide (mi ≥ ((-1000000000 : Int))))) with
         | true =>
          cases c9_ : ((!(decide (mi ≤ 1000000000)))) with
          | true =>
           unfold rjoin0F rjoin1F
           simp only [c0_, c1_, c2_, c3_, c4_, c5_, c6_, c7_, c8_, c9_, cond_true, cond_false]
           exact oS ((hkW laE lpE)) (m := (bitsN 42 4398046511103)) (p := (bitsN 43 8769278951879)) (C3 (bT c0_) (C3 (bF c1_) (C3 (bT c2_) (C2 (bF c1_) (C3 (bF c3_) (C3 (bT c4_) (C2 (bF c3_) (C3 (bF c5_) (C3 (bT c6_) (C2 (bF c5_) (C3 (bF c7_) (C3 (bT c8_) (C2 (bF c7_) (C7 (bT c9_) aN))))))))))))))
          | false =>
           cases c10_ : ((((Ieee.Format.order (FloatKind.f64.format) S 13965043853221167104) == (some Ordering.gt)) || ((Ieee.Format.order (FloatKind.f64.format) S 13965043853221167104) == (some Ordering.eq)))) with
           | true =>
            cases c11_ : ((!(((Ieee.Format.order (FloatKind.f64.format) S 4741671816366391296) == (some Ordering.lt)) || ((Ieee.Format.order (FloatKind.f64.format) S 4741671816366391296) == (some Ordering.eq))))) with
            | true =>
             unfold rjoin0F rjoin1F
             simp only [c0_, c1_, c2_, c3_, c4_, c5_, c6_, c7_, c8_, c9_, c10_, c11_, cond_true, cond_false]
             exact oS ((hkW laE lpE)) (m := (bitsN 47 140737488355327)) (p := (bitsN 47 83020673565127)) (C3 (bT c0_) (C3 (bF c1_) (C3 (bT c2_) (C2 (bF c1_) (C3 (bF c3_) (C3 (bT c4_) (C2 (bF c3_) (C3 (bF c5_) (C3 (bT c6_) (C2 (bF c5_) (C3 (bF c7_) (C3 (bT c8_) (C2 (bF c7_) (C4 (bF c9_) (C3 (bT c10_) (aC (bF c9_) (aC (bT c10_) (C2 (bF c9_) (aC (bT c11_) aN)))))))))))))))))))
            | false =>
             cases c12_ : ((decide ((IntKind.i64.wrap (Y + (IntKind.i64.wrap (M / 12)))) ≥ ((-9999 : Int))))) with
             | true =>
              cases c13_ : ((!(decide ((IntKind.i64.wrap (Y + (IntKind.i64.wrap (M / 12)))) ≤ 9999)))) with
              | true =>
               unfold rjoin0F rjoin1F
               simp only [c0_, c1_, c2_, c3_, c4_, c5_, c6_, c7_, c8_, c9_, c10_, c11_, c12_, c13_, cond_true, cond_false]
               exact oS ((hkW laE lpE)) (m := (bitsN 51 2251799813685247)) (p := (bitsN 51 2123714254717383)) (C3 (bT c0_) (C3 (bF c1_) (C3 (bT c2_) (C2 (bF c1_) (C3 (bF c3_) (C3 (bT c4_) (C2 (bF c3_) (C3 (bF c5_) (C3 (bT c6_) (C2 (bF c5_) (C3 (bF c7_) (C3 (bT c8_) (C2 (bF c7_) (C4 (bF c9_) (C3 (bT c10_) (aC (bF c9_) (aC (bT c10_) (C2 (bF c9_) (aC (bF c11_) (C3 (bT c12_) (aC (bT c13_) aN)))))))))))))))))))))
              | false =>
               have c14_ : ((beginOkF (IntKind.i64.wrap (Y + (IntKind.i64.wrap (M / 12)))) (M % 12))) = true := by
                simp only [c0_, c1_, c2_, c3_, c4_, c5_, c6_, c7_, c8_, c9_, c10_, c11_, c12_, c13_, Bool.and_eq_true, Bool.not_eq_true', cond_true, cond_false] at hok
                exact hok.1
               replace hok := by
                simp only [c0_, c1_, c2_, c3_, c4_, c5_, c6_, c7_, c8_, c9_, c10_, c11_, c12_, c13_, c14_, Bool.not_true, Bool.not_false, Bool.true_and, cond_true, cond_false] at hok
                exact hok
               obtain ⟨c15_, hok⟩ := aO hok
               obtain ⟨c16_, hok⟩ := aO hok
               cases c17_ : ((decide ((IntKind.i64.wrap ((IntKind.i64.wrap ((IntKind.i64.wrap ((IntKind.i64.wrap ((IntKind.i64.wrap ((IntKind.i64.wrap ((IntKind.i64.wrap ((numF (IntKind.i64.wrap (Y + (IntKind.i64.wrap (M / 12)))) (M % 12)) + D)) - 1)) * 86400)) + (IntKind.i64.wrap (ho * 3600)))) + (IntKind.i64.wrap (mi * 60)))) + (f2i FloatKind.f64 (fround .down S)))) / 86400)) < ((-4371587 : Int))))) with
               | true =>
                unfold rjoin0F rjoin1F
                simp only [c0_, c1_, c2_, c3_, c4_, c5_, c6_, c7_, c8_, c9_, c10_, c11_, c12_, c13_, c14_, c15_, c16_, c17_, cond_true, cond_false]
                exact oS ((hkW laE lpE)) (m := (bitsN 68 260708878828850642943)) (p := (bitsN 56 70803608572117447)) (C3 (bT c0_) (C3 (bF c1_) (C3 (bT c2_) (C2 (bF c1_) (C3 (bF c3_) (C3 (bT c4_) (C2 (bF c3_) (C3 (bF c5_) (C3 (bT c6_) (C2 (bF c5_) (C3 (bF c7_) (C3 (bT c8_) (C2 (bF c7_) (C4 (bF c9_) (C3 (bT c10_) (aC (bF c9_) (aC (bT c10_) (C2 (bF c9_) (aC (bF c11_) (C3 (bT c12_) (aC (bF c13_) (aC (bT c14_) (aC c15_ (aC c16_ (C3 (bT c17_) aN)))))))))))))))))))))))))
               | false =>
                cases c18_ : ((decide ((IntKind.i64.wrap ((IntKind.i64.wrap ((IntKind.i64.wrap ((IntKind.i64.wrap ((IntKind.i64.wrap ((IntKind.i64.wrap ((IntKind.i64.wrap ((numF (IntKind.i64.wrap (Y + (IntKind.i64.wrap (M / 12)))) (M % 12)) + D)) - 1)) * 86400)) + (IntKind.i64.wrap (ho * 3600)))) + (IntKind.i64.wrap (mi * 60)))) + (f2i FloatKind.f64 (fround .down S)))) / 86400)) > 2932896))) with
                | true =>
                 unfold rjoin0F rjoin1F
                 simp only [c0_, c1_, c2_, c3_, c4_, c5_, c6_, c7_, c8_, c9_, c10_, c11_, c12_, c13_, c14_, c15_, c16_, c17_, c18_, cond_true, cond_false]
                 exact oS ((hkW laE lpE)) (m := (bitsN 69 555856784008203468799)) (p := (bitsN 56 39278411180523975)) (C3 (bT c0_) (C3 (bF c1_) (C3 (bT c2_) (C2 (bF c1_) (C3 (bF c3_) (C3 (bT c4_) (C2 (bF c3_) (C3 (bF c5_) (C3 (bT c6_) (C2 (bF c5_) (C3 (bF c7_) (C3 (bT c8_) (C2 (bF c7_) (C4 (bF c9_) (C3 (bT c10_) (aC (bF c9_) (aC (bT c10_) (C2 (bF c9_) (aC (bF c11_) (C3 (bT c12_) (aC (bF c13_) (aC (bT c14_) (aC c15_ (aC c16_ (C3 (bF c17_) (aC (bT c18_) aN))))))))))))))))))))))))))
                | false =>
                 unfold rjoin0F rjoin1F
                 simp only [c0_, c1_, c2_, c3_, c4_, c5_, c6_, c7_, c8_, c9_, c10_, c11_, c12_, c13_, c14_, c15_, c16_, c17_, c18_, cond_true, cond_false]
                 exact oS ((hkW laE lpE)) (m := (bitsN 69 555856784008203468799)) (p := (bitsN 56 3249614161560007)) (C3 (bT c0_) (C3 (bF c1_) (C3 (bT c2_) (C2 (bF c1_) (C3 (bF c3_) (C3 (bT c4_) (C2 (bF c3_) (C3 (bF c5_) (C3 (bT c6_) (C2 (bF c5_) (C3 (bF c7_) (C3 (bT c8_) (C2 (bF c7_) (C4 (bF c9_) (C3 (bT c10_) (aC (bF c9_) (aC (bT c10_) (C2 (bF c9_) (aC (bF c11_) (C3 (bT c12_) (aC (bF c13_) (aC (bT c14_) (aC c15_ (aC c16_ (C3 (bF c17_) (aC (bF c18_) aN))))))))))))))))))))))))))
             | false =>
              unfold rjoin0F rjoin1F
              simp only [c0_, c1_, c2_, c3_, c4_, c5_, c6_, c7_, c8_, c9_, c10_, c11_, c12_, cond_true, cond_false]
              exact oS ((hkW laE lpE)) (m := (bitsN 50 1125899906842623)) (p := (bitsN 51 1138551836230087)) (C3 (bT c0_) (C3 (bF c1_) (C3 (bT c2_) (C2 (bF c1_) (C3 (bF c3_) (C3 (bT c4_) (C2 (bF c3_) (C3 (bF c5_) (C3 (bT c6_) (C2 (bF c5_) (C3 (bF c7_) (C3 (bT c8_) (C2 (bF c7_) (C4 (bF c9_) (C3 (bT c10_) (aC (bF c9_) (aC (bT c10_) (C2 (bF c9_) (aC (bF c11_) (C3 (bF c12_) aN))))))))))))))))))))
           | false =>
            unfold rjoin0F rjoin1F
            simp only [c0_, c1_, c2_, c3_, c4_, c5_, c6_, c7_, c8_, c9_, c10_, cond_true, cond_false]
            exact oS ((hkW laE lpE)) (m := (bitsN 46 70368744177663)) (p := (bitsN 47 70376289845703)) (C3 (bT c0_) (C3 (bF c1_) (C3 (bT c2_) (C2 (bF c1_) (C3 (bF c3_) (C3 (bT c4_) (C2 (bF c3_) (C3 (bF c5_) (C3 (bT c6_) (C2 (bF c5_) (C3 (bF c7_) (C3 (bT c8_) (C2 (bF c7_) (C4 (bF c9_) (C3 (bF c10_) (aC (bF c9_) (aC (bF c10_) (C2 (bF c9_) aN))))))))))))))))))
         | false =>
          unfold rjoin0F rjoin1F
          simp only [c0_, c1_, c2_, c3_, c4_, c5_, c6_, c7_, c8_, cond_true, cond_false]
          exact oS ((hkW laE lpE)) (m := (bitsN 35 34359738367)) (p := (bitsN 43 8761762759111)) (C3 (bT c0_) (C3 (bF c1_) (C3 (bT c2_) (C2 (bF c1_) (C3 (bF c3_) (C3 (bT c4_) (C2 (bF c3_) (C3 (bF c5_) (C3 (bT c6_) (C2 (bF c5_) (C3 (bF c7_) (C3 (bF c8_) (C2 (bF c7_) aN)))))))))))))
       | false =>
        unfold rjoin0F rjoin1F
        simp only [c0_, c1_, c2_, c3_, c4_, c5_, c6_, cond_true, cond_false]
        exact oS ((hkW laE lpE)) (m := (bitsN 27 134217727)) (p := (bitsN 40 1099377525191)) (C3 (bT c0_) (C3 (bF c1_) (C3 (bT c2_) (C2 (bF c1_) (C3 (bF c3_) (C3 (bT c4_) (C2 (bF c3_) (C3 (bF c5_) (C3 (bF c6_) (C2 (bF c5_) aN))))))))))
     | false =>
      unfold rjoin0F rjoin1F
      simp only [c0_, c1_, c2_, c3_, c4_, cond_true, cond_false]
      exact oS ((hkW laE lpE)) (m := (bitsN 19 524287)) (p := (bitsN 37 137438429639)) (C3 (bT c0_) (C3 (bF c1_) (C3 (bT c2_) (C2 (bF c1_) (C3 (bF c3_) (C3 (bF c4_) (C2 (bF c3_) aN)))))))
   | false =>
    unfold rjoin0F rjoin1F
    simp only [c0_, c1_, c2_, cond_true, cond_false]
    exact oS ((hkW laE lpE)) (m := (bitsN 11 2047)) (p := (bitsN 34 17179867143)) (C3 (bT c0_) (C3 (bF c1_) (C3 (bF c2_) (C2 (bF c1_) aN))))
 | false =>
  unfold rjoin0F rjoin1F
  simp only [c0_, cond_true, cond_false]
  exact oS ((hkW laE lpE)) (m := [true, true, true]) (p := (bitsN 31 2147483640)) (C3 (bF c0_) aN)
def rjoinV (args : Array Value) : Option Value := match args.toList with
 | [.agg a0_] => match a0_.toList with | [.int .i64 Y, .int .i64 M, .int .i64 D, .int .i64 ho, .int .i64 mi, .float .f64 S, .int .i64 W, .int .i64 J] => some (Value.tuple #[(Value.int IntKind.i64 (rjoin0F Y M D ho mi S W J)), (Value.int IntKind.i64 (rjoin1F Y M D ho mi S W J))]) | _ => none
 | _ => none
def rjoinK (args : Array Value) : Bool := match args.toList with
 | [.agg a0_] => match a0_.toList with | [.int .i64 Y, .int .i64 M, .int .i64 D, .int .i64 ho, .int .i64 mi, .float .f64 S, .int .i64 W, .int .i64 J] => (rjoinOkF Y M D ho mi S W J == true) | _ => false
 | _ => false
def rjoinA : AFn := { f := 52, val := rjoinV, ok := rjoinK }
theorem rjoin_sound : PSound cx0 rjoinA.pfn := psound_startW laE_sound lpE_sound fun args v h => by
 obtain ⟨hv, hk⟩ := afn_some h
 replace hv : rjoinV args = some v := hv
 replace hk : rjoinK args = true := hk
 unfold rjoinV at hv
 split at hv
 ·rename_i a0_ hx
  have ha := args_list hx
  subst ha
  split at hv
  ·rename_i Y M D ho mi S W J hx0
   have ha0 := args_list hx0
   subst ha0
   cases hv
   have hok : rjoinOkF Y M D ho mi S W J = true := by simpa [rjoinK] using hk
   exact ⟨rfl, rfl, 30, rjoin_ev Y M D ho mi S W J hok⟩
  ·cases hv
 ·cases hv
end Go.Proofs.YthopphfehgdocaaGreatDoor
