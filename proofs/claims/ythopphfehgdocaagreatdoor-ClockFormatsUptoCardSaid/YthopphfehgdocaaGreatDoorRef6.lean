import Derived.Test.YthopphfehgdocaaGreatDoorRefK
import Derived.Test.YthopphfehgdocaaGreatDoorRef5
import Derived.Test.YthopphfehgdocaaGreatDoorDec
set_option linter.unusedSimpArgs false
set_option linter.unusedVariables false
namespace Go.Proofs.YthopphfehgdocaaGreatDoor
open Go Go.RowKit Go.Ev Go.Proofs Go.Shelf
def whol0F (Y M D ho mi : Int) (S : Nat) (W J : Int) : Int := (bif ((rjoin1F Y M D ho mi S W J) != 0) then 0 else (bif ((rsplit0F (FloatKind.nearest .f64 (rjoin0F Y M D ho mi S W J))) != Y) then 0 else (bif ((rsplit1F (FloatKind.nearest .f64 (rjoin0F Y M D ho mi S W J))) != M) then 0 else (bif ((rsplit2F (FloatKind.nearest .f64 (rjoin0F Y M D ho mi S W J))) != D) then 0 else (bif ((rsplit3F (FloatKind.nearest .f64 (rjoin0F Y M D ho mi S W J))) != ho) then 0 else (bif ((rsplit4F (FloatKind.nearest .f64 (rjoin0F Y M D ho mi S W J))) != mi) then 0 else (bif ((Ieee.Format.order (FloatKind.f64.format) (rsplit5F (FloatKind.nearest .f64 (rjoin0F Y M D ho mi S W J))) (fround .down S)) != (some Ordering.eq)) then 0 else (rjoin0F Y M D ho mi S W J))))))))
def whol1F (Y M D ho mi : Int) (S : Nat) (W J : Int) : Bool := (bif ((rjoin1F Y M D ho mi S W J) != 0) then false else (bif ((rsplit0F (FloatKind.nearest .f64 (rjoin0F Y M D ho mi S W J))) != Y) then false else (bif ((rsplit1F (FloatKind.nearest .f64 (rjoin0F Y M D ho mi S W J))) != M) then false else (bif ((rsplit2F (FloatKind.nearest .f64 (rjoin0F Y M D ho mi S W J))) != D) then false else (bif ((rsplit3F (FloatKind.nearest .f64 (rjoin0F Y M D ho mi S W J))) != ho) then false else (bif ((rsplit4F (FloatKind.nearest .f64 (rjoin0F Y M D ho mi S W J))) != mi) then false else (bif ((Ieee.Format.order (FloatKind.f64.format) (rsplit5F (FloatKind.nearest .f64 (rjoin0F Y M D ho mi S W J))) (fround .down S)) != (some Ordering.eq)) then false else true)))))))
def wholOkF (Y M D ho mi : Int) (S : Nat) (W J : Int) : Bool := (((rjoinOkF Y M D ho mi S W J)) && (bif ((rjoin1F Y M D ho mi S W J) != 0) then true else (((rsplitOkF (FloatKind.nearest .f64 (rjoin0F Y M D ho mi S W J)))) && ((!(((rsplit8F (FloatKind.nearest .f64 (rjoin0F Y M D ho mi S W J))) != 0))) && (bif ((rsplit0F (FloatKind.nearest .f64 (rjoin0F Y M D ho mi S W J))) != Y) then true else (bif ((rsplit1F (FloatKind.nearest .f64 (rjoin0F Y M D ho mi S W J))) != M) then true else (bif ((rsplit2F (FloatKind.nearest .f64 (rjoin0F Y M D ho mi S W J))) != D) then true else (bif ((rsplit3F (FloatKind.nearest .f64 (rjoin0F Y M D ho mi S W J))) != ho) then true else (bif ((rsplit4F (FloatKind.nearest .f64 (rjoin0F Y M D ho mi S W J))) != mi) then true else (((froundOk S)) && true))))))))))
theorem whol_ev (Y M D ho mi : Int) (S : Nat) (W J : Int) (hok : wholOkF Y M D ho mi S W J = true) : ∃ H' nx', evFunc (withFns cx0 laG lpE) 30 37 #[tmA Y M D ho mi S W J] H0 12 = some ((Value.tuple #[(Value.int IntKind.i64 (whol0F Y M D ho mi S W J)), (Value.bool (whol1F Y M D ho mi S W J))]), H', nx') := by
 unfold wholOkF at hok
 obtain ⟨c0_, hok⟩ := aO hok
 cases c1_ : (((rjoin1F Y M D ho mi S W J) != 0)) with
 | true =>
  unfold whol0F whol1F
  simp only [c0_, c1_, cond_true, cond_false]
  exact oS ((hkW laG lpE)) (m := [true, true]) (p := [true]) (aC (bT c0_) (aC (bT c1_) aN))
 | false =>
  have c2_ : ((rsplitOkF (FloatKind.nearest .f64 (rjoin0F Y M D ho mi S W J)))) = true := by
   simp only [c0_, c1_, Bool.and_eq_true, Bool.not_eq_true', cond_true, cond_false] at hok
   exact hok.1
  replace hok := by
   simp only [c0_, c1_, c2_, Bool.not_true, Bool.not_false, Bool.true_and, cond_true, cond_false] at hok
   exact hok
  obtain ⟨c3_, hok⟩ := nO hok
  cases c4_ : (((rsplit0F (FloatKind.nearest .f64 (rjoin0F Y M D ho mi S W J))) != Y)) with
  | true =>
   unfold whol0F whol1F
   simp only [c0_, c1_, c2_, c3_, c4_, cond_true, cond_false]
   exact oS ((hkW laG lpE)) (m := (bitsN 15 32767)) (p := (bitsN 39 549755813760)) (aC (bT c0_) (aC (bF c1_) (aC (bT c2_) (C6 (bF c3_) (C6 (bT c4_) aN)))))
  | false =>
   cases c5_ : (((rsplit1F (FloatKind.nearest .f64 (rjoin0F Y M D ho mi S W J))) != M)) with
   | true =>
    unfold whol0F whol1F
    simp only [c0_, c1_, c2_, c3_, c4_, c5_, cond_true, cond_false]
    exact oS ((hkW laG lpE)) (m := (bitsN 21 2097151)) (p := (bitsN 39 549755805696)) (aC (bT c0_) (aC (bF c1_) (aC (bT c2_) (C6 (bF c3_) (C6 (bF c4_) (C6 (bT c5_) aN))))))
   | false =>
    cases c6_ : (((rsplit2F (FloatKind.nearest .f64 (rjoin0F Y M D ho mi S W J))) != D)) with
    | true =>
     unfold whol0F whol1F
     simp only [c0_, c1_, c2_, c3_, c4_, c5_, c6_, cond_true, cond_false]
     exact oS ((hkW laG lpE)) (m := (bitsN 27 134217727)) (p := (bitsN 39 549755289600)) (aC (bT c0_) (aC (bF c1_) (aC (bT c2_) (C6 (bF c3_) (C6 (bF c4_) (C6 (bF c5_) (C6 (bT c6_) aN)))))))
    | false =>
     cases c7_ : (((rsplit3F (FloatKind.nearest .f64 (rjoin0F Y M D ho mi S W J))) != ho)) with
     | true =>
      unfold whol0F whol1F
      simp only [c0_, c1_, c2_, c3_, c4_, c5_, c6_, c7_, cond_true, cond_false]
      exact oS ((hkW laG lpE)) (m := (bitsN 33 8589934591)) (p := (bitsN 39 549722259456)) (aC (bT c0_) (aC (bF c1_) (aC (bT c2_) (C6 (bF c3_) (C6 (bF c4_) (C6 (bF c5_) (C6 (bF c6_) (C6 (bT c7_) aN))))))))
     | false =>
      cases c8_ : (((rsplit4F (FloatKind.nearest .f64 (rjoin0F Y M D ho mi S W J))) != mi)) with
      | true =>
       unfold whol0F whol1F
       simp only [c0_, c1_, c2_, c3_, c4_, c5_, c6_, c7_, c8_, cond_true, cond_false]
       exact oS ((hkW laG lpE)) (m := (bitsN 40 1099511627775)) (p := (bitsN 39 547608330240)) (aC (bT c0_) (aC (bF c1_) (aC (bT c2_) (C6 (bF c3_) (C6 (bF c4_) (C6 (bF c5_) (C6 (bF c6_) (C6 (bF c7_) (C7 (bT c8_) aN)))))))))
      | false =>
       have c9_ : ((froundOk S)) = true := by
        simp only [c0_, c1_, c2_, c3_, c4_, c5_, c6_, c7_, c8_, Bool.and_eq_true, Bool.not_eq_true', cond_true, cond_false] at hok
        exact hok.1
       replace hok := by
        simp only [c0_, c1_, c2_, c3_, c4_, c5_, c6_, c7_, c8_, c9_, Bool.not_true, Bool.not_false, Bool.true_and, cond_true, cond_false] at hok
        exact hok
       cases c10_ : (((Ieee.Format.order (FloatKind.f64.format) (rsplit5F (FloatKind.nearest .f64 (rjoin0F Y M D ho mi S W J))) (fround .down S)) != (some Ordering.eq))) with
       | true =>
        unfold whol0F whol1F
        simp only [c0_, c1_, c2_, c3_, c4_, c5_, c6_, c7_, c8_, c9_, c10_, cond_true, cond_false]
        exact oS ((hkW laG lpE)) (m := (bitsN 44 16217796509695)) (p := (bitsN 40 618475290624)) (aC (bT c0_) (aC (bF c1_) (aC (bT c2_) (C6 (bF c3_) (C6 (bF c4_) (C6 (bF c5_) (C6 (bF c6_) (C6 (bF c7_) (C5 (bF c8_) (aC c9_ (C2 (bF c8_) (aC (bT c10_) aN))))))))))))
       | false =>
        unfold whol0F whol1F
        simp only [c0_, c1_, c2_, c3_, c4_, c5_, c6_, c7_, c8_, c9_, c10_, cond_true, cond_false]
        exact oS ((hkW laG lpE)) (m := (bitsN 44 16217796509695)) (p := (bitsN 40 68719476736)) (aC (bT c0_) (aC (bF c1_) (aC (bT c2_) (C6 (bF c3_) (C6 (bF c4_) (C6 (bF c5_) (C6 (bF c6_) (C6 (bF c7_) (C5 (bF c8_) (aC c9_ (C2 (bF c8_) (aC (bF c10_) aN))))))))))))
def wholV (args : Array Value) : Option Value := match args.toList with
 | [.agg a0_] => match a0_.toList with | [.int .i64 Y, .int .i64 M, .int .i64 D, .int .i64 ho, .int .i64 mi, .float .f64 S, .int .i64 W, .int .i64 J] => some (Value.tuple #[(Value.int IntKind.i64 (whol0F Y M D ho mi S W J)), (Value.bool (whol1F Y M D ho mi S W J))]) | _ => none
 | _ => none
def wholK (args : Array Value) : Bool := match args.toList with
 | [.agg a0_] => match a0_.toList with | [.int .i64 Y, .int .i64 M, .int .i64 D, .int .i64 ho, .int .i64 mi, .float .f64 S, .int .i64 W, .int .i64 J] => (wholOkF Y M D ho mi S W J == true) | _ => false
 | _ => false
def wholA : AFn := { f := 37, val := wholV, ok := wholK }
theorem whol_sound : PSound cx0 wholA.pfn := psound_startW laG_sound lpE_sound fun args v h => by
 obtain ⟨hv, hk⟩ := afn_some h
 replace hv : wholV args = some v := hv
 replace hk : wholK args = true := hk
 unfold wholV at hv
 split at hv
 ·rename_i a0_ hx
  have ha := args_list hx
  subst ha
  split at hv
  ·rename_i Y M D ho mi S W J hx0
   have ha0 := args_list hx0
   subst ha0
   cases hv
   have hok : wholOkF Y M D ho mi S W J = true := by simpa [wholK] using hk
   exact ⟨rfl, rfl, 30, whol_ev Y M D ho mi S W J hok⟩
  ·cases hv
 ·cases hv
def repF (s : ByteArray) (c : Int) : ByteArray := ⟨(Lib.repeatL s.data.toList c.toNat).toArray⟩
def repOkF (s : ByteArray) (c : Int) : Bool := decide (0 ≤ c) && (decide (c ≤ 1000) && decide (s.size ≤ 1000))
def repV (args : Array Value) : Option Value := match args.toList with
 | [.string s, .int .i64 c] => some (.string (repF s c))
 | _ => none
def repK (args : Array Value) : Bool := match args.toList with
 | [.string s, .int .i64 c] => (repOkF s c == true)
 | _ => false
def repA : AFn := { f := 169, val := repV, ok := repK }
theorem rep_sound : PSound cx0 repA.pfn := fun i => pureI_sound fun args args' v B w E hW hB har h => by
 obtain ⟨hv, hk⟩ := afn_some h
 replace hv : repV args = some v := hv
 replace hk : repK args = true := hk
 unfold repV at hv
 split at hv
 ·rename_i s c hx
  have ha := args_list hx
  subst ha
  cases hv
  have hn : repOkF s c = true := by simpa [repK] using hk
  unfold repOkF at hn
  simp only [Bool.and_eq_true, decide_eq_true_eq] at hn
  have he : args' = #[.string s, .int .i64 c] := by
   refine Array.ext har.1.symm fun k h1 h2 => ?_
   have p : (#[Value.string s, .int .i64 c])[k]? = some (#[Value.string s, .int .i64 c])[k] := Array.getElem?_eq_getElem h2
   have q : args'[k]? = some args'[k] := Array.getElem?_eq_getElem h1
   refine (har.2 k _ _ p q).shut_eq 60 (closed_all (a := #[Value.string s, .int .i64 c]) rfl k _ p)
  subst he
  have hm : s.size * c.toNat ≤ 1000 * 1000 := Nat.mul_le_mul hn.2.2 (by omega)
  have hc : c = ((c.toNat : Nat) : Int) := by omega
  have e := Tryz.strings_Repeat s c.toNat w (by omega) (by omega)
  rw [← hc] at e
  refine e.mono ?_
  rintro e w' ⟨rfl, hb⟩
  exact ⟨rfl, rfl, hb⟩
 ·cases hv
def laS : List AFn := [repA, itoaA, decA, cjoinA, csplitA, rjoinA, rsplitA, cdayA, cwksA, rdayA, rwksA, numberA2, beginA2]
theorem laS_sound : ∀ e ∈ laS, PSound cx0 e.pfn := asound_cons rep_sound (asound_cons itoa_sound (asound_cons dec_sound (asound_cons cjoin_sound (asound_cons csplit_sound (asound_cons rjoin_sound (asound_cons rsplit_sound (asound_cons cday_sound (asound_cons cwks_sound (asound_cons rday_sound (asound_cons rwks_sound (asound_cons number2_sound (asound_cons begin2_sound asound_nil))))))))))))
theorem ctwo_p0 (n : Int) (H : Hp) (nx : Nat) (h1 : ((decide (n < 0)) == false) = true) (h2 : ((i64F n) == true) = true) (h3 : ((repOkF (ByteArray.mk (List.toArray [48])) (if ((IntKind.i64.wrap (2 - ((((ByteArray.size (itoaF n)) : Nat) : Int)))) > 0) then (IntKind.i64.wrap (2 - ((((ByteArray.size (itoaF n)) : Nat) : Int)))) else 0)) == true) = true) (h4 : (decide ((((((ByteArray.size (ByteArray.mk #[])) + (ByteArray.size (repF (ByteArray.mk #[48]) (if ((IntKind.i64.wrap (2 - ((((ByteArray.size (itoaF n)) : Nat) : Int)))) > 0) then (IntKind.i64.wrap (2 - ((((ByteArray.size (itoaF n)) : Nat) : Int)))) else 0)))) : Nat) : Int)) ≤ (Int.ofNat (9223372036854775808 - 1)))) = true) (h5 : (decide ((((((ByteArray.size ((ByteArray.mk #[]) ++ (repF (ByteArray.mk #[48]) (if ((IntKind.i64.wrap (2 - ((((ByteArray.size (itoaF n)) : Nat) : Int)))) > 0) then (IntKind.i64.wrap (2 - ((((ByteArray.size (itoaF n)) : Nat) : Int)))) else 0)))) + (ByteArray.size (itoaF n))) : Nat) : Int)) ≤ (Int.ofNat (9223372036854775808 - 1)))) = true) : evFunc (withFns cx0 laS lpE) 30 96 #[.int .i64 n] H nx = some ((Value.string (((ByteArray.mk #[]) ++ (repF (ByteArray.mk #[48]) (if ((IntKind.i64.wrap (2 - ((((ByteArray.size (itoaF n)) : Nat) : Int)))) > 0) then (IntKind.i64.wrap (2 - ((((ByteArray.size (itoaF n)) : Nat) : Int)))) else 0))) ++ (itoaF n))), H, nx + 23) :=
 orc_sel_run ((hkW laS lpE)) (m := [true, true, true, true, true]) (l := [((decide (n < 0)) == false), ((i64F n) == true), ((repOkF (ByteArray.mk (List.toArray [48])) (if ((IntKind.i64.wrap (2 - ((((ByteArray.size (itoaF n)) : Nat) : Int)))) > 0) then (IntKind.i64.wrap (2 - ((((ByteArray.size (itoaF n)) : Nat) : Int)))) else 0)) == true), (decide ((((((ByteArray.size (ByteArray.mk #[])) + (ByteArray.size (repF (ByteArray.mk #[48]) (if ((IntKind.i64.wrap (2 - ((((ByteArray.size (itoaF n)) : Nat) : Int)))) > 0) then (IntKind.i64.wrap (2 - ((((ByteArray.size (itoaF n)) : Nat) : Int)))) else 0)))) : Nat) : Int)) ≤ (Int.ofNat (9223372036854775808 - 1)))), (decide ((((((ByteArray.size ((ByteArray.mk #[]) ++ (repF (ByteArray.mk #[48]) (if ((IntKind.i64.wrap (2 - ((((ByteArray.size (itoaF n)) : Nat) : Int)))) > 0) then (IntKind.i64.wrap (2 - ((((ByteArray.size (itoaF n)) : Nat) : Int)))) else 0)))) + (ByteArray.size (itoaF n))) : Nat) : Int)) ≤ (Int.ofNat (9223372036854775808 - 1))))]) (p := [false]) (by kernel_rfl) (by kernel_rfl) (by kernel_rfl) (aC h1 (aC h2 (aC h3 (aC h4 (aC h5 aN)))))
theorem ctwo_p1 (n : Int) (H : Hp) (nx : Nat) (h1 : ((decide (n < 0)) == true) = true) (h2 : ((i64F (IntKind.i64.wrap (0 - n))) == true) = true) (h3 : ((repOkF (ByteArray.mk (List.toArray [48])) (if ((IntKind.i64.wrap (2 - ((((ByteArray.size (itoaF (IntKind.i64.wrap (0 - n)))) : Nat) : Int)))) > 0) then (IntKind.i64.wrap (2 - ((((ByteArray.size (itoaF (IntKind.i64.wrap (0 - n)))) : Nat) : Int)))) else 0)) == true) = true) (h4 : (decide ((((((ByteArray.size (ByteArray.mk #[45])) + (ByteArray.size (repF (ByteArray.mk #[48]) (if ((IntKind.i64.wrap (2 - ((((ByteArray.size (itoaF (IntKind.i64.wrap (0 - n)))) : Nat) : Int)))) > 0) then (IntKind.i64.wrap (2 - ((((ByteArray.size (itoaF (IntKind.i64.wrap (0 - n)))) : Nat) : Int)))) else 0)))) : Nat) : Int)) ≤ (Int.ofNat (9223372036854775808 - 1)))) = true) (h5 : (decide ((((((ByteArray.size ((ByteArray.mk #[45]) ++ (repF (ByteArray.mk #[48]) (if ((IntKind.i64.wrap (2 - ((((ByteArray.size (itoaF (IntKind.i64.wrap (0 - n)))) : Nat) : Int)))) > 0) then (IntKind.i64.wrap (2 - ((((ByteArray.size (itoaF (IntKind.i64.wrap (0 - n)))) : Nat) : Int)))) else 0)))) + (ByteArray.size (itoaF (IntKind.i64.wrap (0 - n))))) : Nat) : Int)) ≤ (Int.ofNat (9223372036854775808 - 1)))) = true) : evFunc (withFns cx0 laS lpE) 30 96 #[.int .i64 n] H nx = some ((Value.string (((ByteArray.mk #[45]) ++ (repF (ByteArray.mk #[48]) (if ((IntKind.i64.wrap (2 - ((((ByteArray.size (itoaF (IntKind.i64.wrap (0 - n)))) : Nat) : Int)))) > 0) then (IntKind.i64.wrap (2 - ((((ByteArray.size (itoaF (IntKind.i64.wrap (0 - n)))) : Nat) : Int)))) else 0))) ++ (itoaF (IntKind.i64.wrap (0 - n))))), H, nx + 27) :=
 orc_sel_run ((hkW laS lpE)) (m := [true, true, true, true, true]) (l := [((decide (n < 0)) == true), ((i64F (IntKind.i64.wrap (0 - n))) == true), ((repOkF (ByteArray.mk (List.toArray [48])) (if ((IntKind.i64.wrap (2 - ((((ByteArray.size (itoaF (IntKind.i64.wrap (0 - n)))) : Nat) : Int)))) > 0) then (IntKind.i64.wrap (2 - ((((ByteArray.size (itoaF (IntKind.i64.wrap (0 - n)))) : Nat) : Int)))) else 0)) == true), (decide ((((((ByteArray.size (ByteArray.mk #[45])) + (ByteArray.size (repF (ByteArray.mk #[48]) (if ((IntKind.i64.wrap (2 - ((((ByteArray.size (itoaF (IntKind.i64.wrap (0 - n)))) : Nat) : Int)))) > 0) then (IntKind.i64.wrap (2 - ((((ByteArray.size (itoaF (IntKind.i64.wrap (0 - n)))) : Nat) : Int)))) else 0)))) : Nat) : Int)) ≤ (Int.ofNat (9223372036854775808 - 1)))), (decide ((((((ByteArray.size ((ByteArray.mk #[45]) ++ (repF (ByteArray.mk #[48]) (if ((IntKind.i64.wrap (2 - ((((ByteArray.size (itoaF (IntKind.i64.wrap (0 - n)))) : Nat) : Int)))) > 0) then (IntKind.i64.wrap (2 - ((((ByteArray.size (itoaF (IntKind.i64.wrap (0 - n)))) : Nat) : Int)))) else 0)))) + (ByteArray.size (itoaF (IntKind.i64.wrap (0 - n))))) : Nat) : Int)) ≤ (Int.ofNat (9223372036854775808 - 1))))]) (p := [true]) (by kernel_rfl) (by kernel_rfl) (by kernel_rfl) (aC h1 (aC h2 (aC h3 (aC h4 (aC h5 aN)))))
def ctwo0F (n : Int) : ByteArray := (bif (decide (n < 0)) then (((ByteArray.mk #[45]) ++ (repF (ByteArray.mk #[48]) (if ((IntKind.i64.wrap (2 - ((((ByteArray.size (itoaF (IntKind.i64.wrap (0 - n)))) : Nat) : Int)))) > 0) then (IntKind.i64.wrap (2 - ((((ByteArray.size (itoaF (IntKind.i64.wrap (0 - n)))) : Nat) : Int)))) else 0))) ++ (itoaF (IntKind.i64.wrap (0 - n)))) else (((ByteArray.mk #[]) ++ (repF (ByteArray.mk #[48]) (if ((IntKind.i64.wrap (2 - ((((ByteArray.size (itoaF n)) : Nat) : Int)))) > 0) then (IntKind.i64.wrap (2 - ((((ByteArray.size (itoaF n)) : Nat) : Int)))) else 0))) ++ (itoaF n)))
def ctwoOkF (n : Int) : Bool := (bif (decide (n < 0)) then (((i64F (IntKind.i64.wrap (0 - n)))) && (((repOkF (ByteArray.mk (List.toArray [48])) (if ((IntKind.i64.wrap (2 - ((((ByteArray.size (itoaF (IntKind.i64.wrap (0 - n)))) : Nat) : Int)))) > 0) then (IntKind.i64.wrap (2 - ((((ByteArray.size (itoaF (IntKind.i64.wrap (0 - n)))) : Nat) : Int)))) else 0))) && (((decide ((((((ByteArray.size (ByteArray.mk #[45])) + (ByteArray.size (repF (ByteArray.mk #[48]) (if ((IntKind.i64.wrap (2 - ((((ByteArray.size (itoaF (IntKind.i64.wrap (0 - n)))) : Nat) : Int)))) > 0) then (IntKind.i64.wrap (2 - ((((ByteArray.size (itoaF (IntKind.i64.wrap (0 - n)))) : Nat) : Int)))) else 0)))) : Nat) : Int)) ≤ (Int.ofNat (9223372036854775808 - 1))))) && (((decide ((((((ByteArray.size ((ByteArray.mk #[45]) ++ (repF (ByteArray.mk #[48]) (if ((IntKind.i64.wrap (2 - ((((ByteArray.size (itoaF (IntKind.i64.wrap (0 - n)))) : Nat) : Int)))) > 0) then (IntKind.i64.wrap (2 - ((((ByteArray.size (itoaF (IntKind.i64.wrap (0 - n)))) : Nat) : Int)))) else 0)))) + (ByteArray.size (itoaF (IntKind.i64.wrap (0 - n))))) : Nat) : Int)) ≤ (Int.ofNat (9223372036854775808 - 1))))) && true)))) else (((i64F n)) && (((repOkF (ByteArray.mk (List.toArray [48])) (if ((IntKind.i64.wrap (2 - ((((ByteArray.size (itoaF n)) : Nat) : Int)))) > 0) then (IntKind.i64.wrap (2 - ((((ByteArray.size (itoaF n)) : Nat) : Int)))) else 0))) && (((decide ((((((ByteArray.size (ByteArray.mk #[])) + (ByteArray.size (repF (ByteArray.mk #[48]) (if ((IntKind.i64.wrap (2 - ((((ByteArray.size (itoaF n)) : Nat) : Int)))) > 0) then (IntKind.i64.wrap (2 - ((((ByteArray.size (itoaF n)) : Nat) : Int)))) else 0)))) : Nat) : Int)) ≤ (Int.ofNat (9223372036854775808 - 1))))) && (((decide ((((((ByteArray.size ((ByteArray.mk #[]) ++ (repF (ByteArray.mk #[48]) (if ((IntKind.i64.wrap (2 - ((((ByteArray.size (itoaF n)) : Nat) : Int)))) > 0) then (IntKind.i64.wrap (2 - ((((ByteArray.size (itoaF n)) : Nat) : Int)))) else 0)))) + (ByteArray.size (itoaF n))) : Nat) : Int)) ≤ (Int.ofNat (9223372036854775808 - 1))))) && true)))))
theorem ctwo_ev (n : Int) (H : Hp) (nx : Nat) (hok : ctwoOkF n = true) : ∃ k, evFunc (withFns cx0 laS lpE) 30 96 #[.int .i64 n] H nx = some ((Value.string (ctwo0F n)), H, k) := by
 unfold ctwoOkF at hok
 cases c0_ : ((decide (n < 0))) with
 | true =>
  have c1_ : ((i64F (IntKind.i64.wrap (0 - n)))) = true := by
   simp only [c0_, Bool.and_eq_true, Bool.not_eq_true', cond_true, cond_false] at hok
   first | exact hok.1 | (simp only [Bool.not_eq_true']; exact hok.1)
  replace hok := by
   simp only [c0_, c1_, Bool.not_true, Bool.not_false, Bool.true_and, cond_true, cond_false] at hok
   exact hok
  obtain ⟨c2_, hok⟩ := aO hok
  obtain ⟨c3_, hok⟩ := aO hok
  obtain ⟨c4_, hok⟩ := aO hok
  unfold ctwo0F
  try simp only [c0_, c1_, c2_, c3_, c4_, cond_true, cond_false]
  exact ⟨_, ctwo_p1 n H nx (by rw [c0_]; rfl) (by rw [c1_]; rfl) (by rw [c2_]; rfl) c3_ c4_⟩
 | false =>
  have c1_ : ((i64F n)) = true := by
   simp only [c0_, Bool.and_eq_true, Bool.not_eq_true', cond_true, cond_false] at hok
   first | exact hok.1 | (simp only [Bool.not_eq_true']; exact hok.1)
  replace hok := by
   simp only [c0_, c1_, Bool.not_true, Bool.not_false, Bool.true_and, cond_true, cond_false] at hok
   exact hok
  obtain ⟨c2_, hok⟩ := aO hok
  obtain ⟨c3_, hok⟩ := aO hok
  obtain ⟨c4_, hok⟩ := aO hok
  unfold ctwo0F
  try simp only [c0_, c1_, c2_, c3_, c4_, cond_true, cond_false]
  exact ⟨_, ctwo_p0 n H nx (by rw [c0_]; rfl) (by rw [c1_]; rfl) (by rw [c2_]; rfl) c3_ c4_⟩
def ctwoV (args : Array Value) : Option Value := match args.toList with
 | [.int .i64 n] => some (Value.string (ctwo0F n))
 | _ => none
def ctwoK (args : Array Value) : Bool := match args.toList with
 | [.int .i64 n] => (ctwoOkF n == true)
 | _ => false
def ctwoA : AFn := { f := 96, val := ctwoV, ok := ctwoK }
theorem ctwo_sound : PSound cx0 ctwoA.pfn := psound_of_evW cx_ok laS_sound lpE_sound fun args v h H nx => by
 obtain ⟨hv, hk⟩ := afn_some h
 replace hv : ctwoV args = some v := hv
 replace hk : ctwoK args = true := hk
 unfold ctwoV at hv
 split at hv
 ·rename_i n hx
  have ha := args_list hx
  subst ha
  cases hv
  have hok : ctwoOkF n = true := by simpa [ctwoK] using hk
  obtain ⟨k, e⟩ := ctwo_ev n H nx hok
  exact ⟨30, k, e⟩
 ·cases hv
theorem rtwo_p0 (n : Int) (H : Hp) (nx : Nat) (h1 : ((i64F n) == true) = true) (h2 : ((decide (((((ByteArray.size (itoaF n)) : Nat) : Int)) < 2)) == true) = true) (h3 : (decide ((((((ByteArray.size (ByteArray.mk #[48])) + (ByteArray.size (itoaF n))) : Nat) : Int)) ≤ (Int.ofNat (9223372036854775808 - 1)))) = true) (h4 : ((decide (((((ByteArray.size ((ByteArray.mk #[48]) ++ (itoaF n))) : Nat) : Int)) < 2)) == false) = true) : evFunc (withFns cx0 laS lpE) 30 176 #[.int .i64 n] H nx = some ((Value.string ((ByteArray.mk #[48]) ++ (itoaF n))), H, nx + 22) :=
 orc_sel_run ((hkW laS lpE)) (m := [true, true, true, true]) (l := [((i64F n) == true), ((decide (((((ByteArray.size (itoaF n)) : Nat) : Int)) < 2)) == true), (decide ((((((ByteArray.size (ByteArray.mk #[48])) + (ByteArray.size (itoaF n))) : Nat) : Int)) ≤ (Int.ofNat (9223372036854775808 - 1)))), ((decide (((((ByteArray.size ((ByteArray.mk #[48]) ++ (itoaF n))) : Nat) : Int)) < 2)) == false)]) (p := [true, false]) (by kernel_rfl) (by kernel_rfl) (by kernel_rfl) (aC h1 (aC h2 (aC h3 (aC h4 aN))))
theorem rtwo_p1 (n : Int) (H : Hp) (nx : Nat) (h1 : ((i64F n) == true) = true) (h2 : ((decide (((((ByteArray.size (itoaF n)) : Nat) : Int)) < 2)) == false) = true) : evFunc (withFns cx0 laS lpE) 30 176 #[.int .i64 n] H nx = some ((Value.string (itoaF n)), H, nx + 14) :=
 orc_sel_run ((hkW laS lpE)) (m := [true, true]) (l := [((i64F n) == true), ((decide (((((ByteArray.size (itoaF n)) : Nat) : Int)) < 2)) == false)]) (p := [false]) (by kernel_rfl) (by kernel_rfl) (by kernel_rfl) (aC h1 (aC h2 aN))
def rtwo0F (n : Int) : ByteArray := (bif (decide (((((ByteArray.size (itoaF n)) : Nat) : Int)) < 2)) then ((ByteArray.mk #[48]) ++ (itoaF n)) else (itoaF n))
def rtwoOkF (n : Int) : Bool := (((i64F n)) && (bif (decide (((((ByteArray.size (itoaF n)) : Nat) : Int)) < 2)) then (((decide ((((((ByteArray.size (ByteArray.mk #[48])) + (ByteArray.size (itoaF n))) : Nat) : Int)) ≤ (Int.ofNat (9223372036854775808 - 1))))) && ((!((decide (((((ByteArray.size ((ByteArray.mk #[48]) ++ (itoaF n))) : Nat) : Int)) < 2)))) && true)) else true))
theorem rtwo_ev (n : Int) (H : Hp) (nx : Nat) (hok : rtwoOkF n = true) : ∃ k, evFunc (withFns cx0 laS lpE) 30 176 #[.int .i64 n] H nx = some ((Value.string (rtwo0F n)), H, k) := by
 unfold rtwoOkF at hok
 obtain ⟨c0_, hok⟩ := aO hok
 cases c1_ : ((decide (((((ByteArray.size (itoaF n)) : Nat) : Int)) < 2))) with
 | true =>
  have c2_ : ((decide ((((((ByteArray.size (ByteArray.mk #[48])) + (ByteArray.size (itoaF n))) : Nat) : Int)) ≤ (Int.ofNat (9223372036854775808 - 1))))) = true := by
   simp only [c0_, c1_, Bool.and_eq_true, Bool.not_eq_true', cond_true, cond_false] at hok
   first | exact hok.1 | (simp only [Bool.not_eq_true']; exact hok.1)
  replace hok := by
   simp only [c0_, c1_, c2_, Bool.not_true, Bool.not_false, Bool.true_and, cond_true, cond_false] at hok
   exact hok
  obtain ⟨c3_, hok⟩ := nO hok
  unfold rtwo0F
  try simp only [c0_, c1_, c2_, c3_, cond_true, cond_false]
  exact ⟨_, rtwo_p0 n H nx (by rw [c0_]; rfl) (by rw [c1_]; rfl) c2_ (by rw [c3_]; rfl)⟩
 | false =>
  unfold rtwo0F
  try simp only [c0_, c1_, cond_true, cond_false]
  exact ⟨_, rtwo_p1 n H nx (by rw [c0_]; rfl) (by rw [c1_]; rfl)⟩
def rtwoV (args : Array Value) : Option Value := match args.toList with
 | [.int .i64 n] => some (Value.string (rtwo0F n))
 | _ => none
def rtwoK (args : Array Value) : Bool := match args.toList with
 | [.int .i64 n] => (rtwoOkF n == true)
 | _ => false
def rtwoA : AFn := { f := 176, val := rtwoV, ok := rtwoK }
theorem rtwo_sound : PSound cx0 rtwoA.pfn := psound_of_evW cx_ok laS_sound lpE_sound fun args v h H nx => by
 obtain ⟨hv, hk⟩ := afn_some h
 replace hv : rtwoV args = some v := hv
 replace hk : rtwoK args = true := hk
 unfold rtwoV at hv
 split at hv
 ·rename_i n hx
  have ha := args_list hx
  subst ha
  cases hv
  have hok : rtwoOkF n = true := by simpa [rtwoK] using hk
  obtain ⟨k, e⟩ := rtwo_ev n H nx hok
  exact ⟨30, k, e⟩
 ·cases hv
theorem rflo_p0 (n b : Int) (H : Hp) (nx : Nat) (h1 : (!(b == 0)) = true) (h2 : ((decide ((Int.tmod n b) < 0)) == false) = true) : evFunc (withFns cx0 laS lpE) 30 170 #[.int .i64 n, .int .i64 b] H nx = some ((Value.int IntKind.i64 (IntKind.i64.wrap (Int.tdiv n b))), H, nx + 11) :=
 orc_sel_run ((hkW laS lpE)) (m := [true, true, true]) (l := [(!(b == 0)), (!(b == 0)), ((decide ((Int.tmod n b) < 0)) == false)]) (p := [false]) (by kernel_rfl) (by kernel_rfl) (by kernel_rfl) (C2 h1 (aC h2 aN))
theorem rflo_p1 (n b : Int) (H : Hp) (nx : Nat) (h1 : (!(b == 0)) = true) (h2 : ((decide ((Int.tmod n b) < 0)) == true) = true) : evFunc (withFns cx0 laS lpE) 30 170 #[.int .i64 n, .int .i64 b] H nx = some ((Value.int IntKind.i64 (IntKind.i64.wrap ((IntKind.i64.wrap (Int.tdiv n b)) - 1))), H, nx + 14) :=
 orc_sel_run ((hkW laS lpE)) (m := [true, true, true]) (l := [(!(b == 0)), (!(b == 0)), ((decide ((Int.tmod n b) < 0)) == true)]) (p := [true]) (by kernel_rfl) (by kernel_rfl) (by kernel_rfl) (C2 h1 (aC h2 aN))
def rflo0F (n b : Int) : Int := (bif (decide ((Int.tmod n b) < 0)) then (IntKind.i64.wrap ((IntKind.i64.wrap (Int.tdiv n b)) - 1)) else (IntKind.i64.wrap (Int.tdiv n b)))
def rfloOkF (n b : Int) : Bool := (((!(b == 0))) && true)
theorem rflo_ev (n b : Int) (H : Hp) (nx : Nat) (hok : rfloOkF n b = true) : ∃ k, evFunc (withFns cx0 laS lpE) 30 170 #[.int .i64 n, .int .i64 b] H nx = some ((Value.int IntKind.i64 (rflo0F n b)), H, k) := by
 unfold rfloOkF at hok
 obtain ⟨c0_, hok⟩ := aO hok
 cases c1_ : ((decide ((Int.tmod n b) < 0))) with
 | true =>
  unfold rflo0F
  try simp only [c0_, c1_, cond_true, cond_false]
  exact ⟨_, rflo_p1 n b H nx c0_ (by rw [c1_]; rfl)⟩
 | false =>
  unfold rflo0F
  try simp only [c0_, c1_, cond_true, cond_false]
  exact ⟨_, rflo_p0 n b H nx c0_ (by rw [c1_]; rfl)⟩
def rfloV (args : Array Value) : Option Value := match args.toList with
 | [.int .i64 n, .int .i64 b] => some (Value.int IntKind.i64 (rflo0F n b))
 | _ => none
def rfloK (args : Array Value) : Bool := match args.toList with
 | [.int .i64 n, .int .i64 b] => (rfloOkF n b == true)
 | _ => false
def rfloA : AFn := { f := 170, val := rfloV, ok := rfloK }
theorem rflo_sound : PSound cx0 rfloA.pfn := psound_of_evW cx_ok laS_sound lpE_sound fun args v h H nx => by
 obtain ⟨hv, hk⟩ := afn_some h
 replace hv : rfloV args = some v := hv
 replace hk : rfloK args = true := hk
 unfold rfloV at hv
 split at hv
 ·rename_i n b hx
  have ha := args_list hx
  subst ha
  cases hv
  have hok : rfloOkF n b = true := by simpa [rfloK] using hk
  obtain ⟨k, e⟩ := rflo_ev n b H nx hok
  exact ⟨30, k, e⟩
 ·cases hv
def laT : List AFn := ctwoA :: rtwoA :: rfloA :: laS
theorem laT_sound : ∀ e ∈ laT, PSound cx0 e.pfn := asound_cons ctwo_sound (asound_cons rtwo_sound (asound_cons rflo_sound laS_sound))
abbrev MoF (α : Type) := Int → Int → Int → Int → Int → Nat → Int → Int → Int → Int → Int → Int → Int → α
def mzV (val : MoF ByteArray) (args : Array Value) : Option Value := match args.toList with
 | [.agg a] => match a.toList with
  | [.int .i64 Y, .int .i64 M, .int .i64 D, .int .i64 ho, .int .i64 mi, .float .f64 S, .int .i64 W, .int .i64 J, .int .i64 sec, .int .i64 iy, .int .i64 iw, .int .i64 sn, .int .i64 mn] => some (.string (val Y M D ho mi S W J sec iy iw sn mn))
  | _ => none
 | _ => none
def mzK (ok : MoF Bool) (args : Array Value) : Bool := match args.toList with
 | [.agg a] => match a.toList with
  | [.int .i64 Y, .int .i64 M, .int .i64 D, .int .i64 ho, .int .i64 mi, .float .f64 S, .int .i64 W, .int .i64 J, .int .i64 sec, .int .i64 iy, .int .i64 iw, .int .i64 sn, .int .i64 mn] => ok Y M D ho mi S W J sec iy iw sn mn == true
  | _ => false
 | _ => false
def moFn (f : FuncId) (val : MoF ByteArray) (ok : MoF Bool) : AFn := { f, val := mzV val, ok := mzK ok }
theorem mo_sound {f : FuncId} {val : MoF ByteArray} {ok : MoF Bool} (ev : ∀ (Y M D ho mi : Int) (S : Nat) (W J sec iy iw sn mn : Int), ok Y M D ho mi S W J sec iy iw sn mn = true → ∃ H' nx', evFunc (withFns cx0 laT lpE) 30 f #[moA Y M D ho mi S W J sec iy iw sn mn] H0 12 = some (.string (val Y M D ho mi S W J sec iy iw sn mn), H', nx')) : PSound cx0 (moFn f val ok).pfn := psound_startW laT_sound lpE_sound fun args v h => by
 obtain ⟨hv, hk⟩ := afn_some h
 replace hv : mzV val args = some v := hv
 replace hk : mzK ok args = true := hk
 unfold mzV at hv
 split at hv
 ·rename_i a hx
  have ha := args_list hx
  subst ha
  split at hv
  ·rename_i Y M D ho mi S W J sec iy iw sn mn hx0
   have ha0 := args_list hx0
   subst ha0
   cases hv
   have hok : ok Y M D ho mi S W J sec iy iw sn mn = true := by simpa [mzK] using hk
   exact ⟨rfl, rfl, 30, ev Y M D ho mi S W J sec iy iw sn mn hok⟩
  ·cases hv
 ·cases hv
end Go.Proofs.YthopphfehgdocaaGreatDoor
