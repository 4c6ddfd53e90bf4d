import Derived.Test.YthopphfehgdocaaGreatDoorRef6
set_option linter.unusedSimpArgs false
set_option linter.unusedVariables false
namespace Go.Proofs.YthopphfehgdocaaGreatDoor
open Go Go.RowKit Go.Ev Go.Proofs Go.Shelf
def dY0F (Y M D ho mi : Int) (S : Nat) (W J sec iy iw sn mn : Int) : ByteArray := (itoaF Y)
def dYOkF (Y M D ho mi : Int) (S : Nat) (W J sec iy iw sn mn : Int) : Bool := (((i64F Y)) && true)
theorem dY_ev (Y M D ho mi : Int) (S : Nat) (W J sec iy iw sn mn : Int) (hok : dYOkF Y M D ho mi S W J sec iy iw sn mn = true) : ∃ H' nx', evFunc (withFns cx0 laT lpE) 30 93 #[moA Y M D ho mi S W J sec iy iw sn mn] H0 12 = some ((Value.string (dY0F Y M D ho mi S W J sec iy iw sn mn)), H', nx') := by
 unfold dYOkF at hok
 obtain ⟨c0_, hok⟩ := aO hok
 unfold dY0F
 try simp only [c0_, cond_true, cond_false]
 exact oS ((hkW laT lpE)) (m := [true]) (p := []) (aC (bT c0_) aN)
def dYA : AFn := moFn 93 dY0F dYOkF
theorem dY_sound : PSound cx0 dYA.pfn := mo_sound dY_ev
def dM0F (Y M D ho mi : Int) (S : Nat) (W J sec iy iw sn mn : Int) : ByteArray := (ctwo0F mi)
def dMOkF (Y M D ho mi : Int) (S : Nat) (W J sec iy iw sn mn : Int) : Bool := (((ctwoOkF mi)) && true)
theorem dM_ev (Y M D ho mi : Int) (S : Nat) (W J sec iy iw sn mn : Int) (hok : dMOkF Y M D ho mi S W J sec iy iw sn mn = true) : ∃ H' nx', evFunc (withFns cx0 laT lpE) 30 101 #[moA Y M D ho mi S W J sec iy iw sn mn] H0 12 = some ((Value.string (dM0F Y M D ho mi S W J sec iy iw sn mn)), H', nx') := by
 unfold dMOkF at hok
 obtain ⟨c0_, hok⟩ := aO hok
 unfold dM0F
 try simp only [c0_, cond_true, cond_false]
 exact oS ((hkW laT lpE)) (m := [true]) (p := []) (aC (bT c0_) aN)
def dMA : AFn := moFn 101 dM0F dMOkF
theorem dM_sound : PSound cx0 dMA.pfn := mo_sound dM_ev
def de0F (Y M D ho mi : Int) (S : Nat) (W J sec iy iw sn mn : Int) : ByteArray := (((ByteArray.mk #[]) ++ (repF (ByteArray.mk #[32]) (if ((IntKind.i64.wrap (2 - ((((ByteArray.size (itoaF D)) : Nat) : Int)))) > 0) then (IntKind.i64.wrap (2 - ((((ByteArray.size (itoaF D)) : Nat) : Int)))) else 0))) ++ (itoaF D))
def deOkF (Y M D ho mi : Int) (S : Nat) (W J sec iy iw sn mn : Int) : Bool := ((!((decide (D < 0)))) && (((i64F D)) && (((repOkF (ByteArray.mk (List.toArray [32])) (if ((IntKind.i64.wrap (2 - ((((ByteArray.size (itoaF D)) : Nat) : Int)))) > 0) then (IntKind.i64.wrap (2 - ((((ByteArray.size (itoaF D)) : Nat) : Int)))) else 0))) && (((decide ((((((ByteArray.size (ByteArray.mk #[])) + (ByteArray.size (repF (ByteArray.mk #[32]) (if ((IntKind.i64.wrap (2 - ((((ByteArray.size (itoaF D)) : Nat) : Int)))) > 0) then (IntKind.i64.wrap (2 - ((((ByteArray.size (itoaF D)) : Nat) : Int)))) else 0)))) : Nat) : Int)) ≤ (Int.ofNat (9223372036854775808 - 1))))) && (((decide ((((((ByteArray.size ((ByteArray.mk #[]) ++ (repF (ByteArray.mk #[32]) (if ((IntKind.i64.wrap (2 - ((((ByteArray.size (itoaF D)) : Nat) : Int)))) > 0) then (IntKind.i64.wrap (2 - ((((ByteArray.size (itoaF D)) : Nat) : Int)))) else 0)))) + (ByteArray.size (itoaF D))) : Nat) : Int)) ≤ (Int.ofNat (9223372036854775808 - 1))))) && true)))))
theorem de_ev (Y M D ho mi : Int) (S : Nat) (W J sec iy iw sn mn : Int) (hok : deOkF Y M D ho mi S W J sec iy iw sn mn = true) : ∃ H' nx', evFunc (withFns cx0 laT lpE) 30 107 #[moA Y M D ho mi S W J sec iy iw sn mn] H0 12 = some ((Value.string (de0F Y M D ho mi S W J sec iy iw sn mn)), H', nx') := by
 unfold deOkF at hok
 obtain ⟨c0_, hok⟩ := nO hok
 obtain ⟨c1_, hok⟩ := aO hok
 obtain ⟨c2_, hok⟩ := aO hok
 obtain ⟨c3_, hok⟩ := aO hok
 obtain ⟨c4_, hok⟩ := aO hok
 unfold de0F
 try simp only [c0_, c1_, c2_, c3_, c4_, cond_true, cond_false]
 exact oS ((hkW laT lpE)) (m := (bitsN 5 31)) (p := [false]) (aC (bF c0_) (aC (bT c1_) (aC (bT c2_) (aC c3_ (aC c4_ aN)))))
def deA : AFn := moFn 107 de0F deOkF
theorem de_sound : PSound cx0 deA.pfn := mo_sound de_ev
def dw0F (Y M D ho mi : Int) (S : Nat) (W J sec iy iw sn mn : Int) : ByteArray := (itoaF W)
def dwOkF (Y M D ho mi : Int) (S : Nat) (W J sec iy iw sn mn : Int) : Bool := (((i64F W)) && true)
theorem dw_ev (Y M D ho mi : Int) (S : Nat) (W J sec iy iw sn mn : Int) (hok : dwOkF Y M D ho mi S W J sec iy iw sn mn = true) : ∃ H' nx', evFunc (withFns cx0 laT lpE) 30 111 #[moA Y M D ho mi S W J sec iy iw sn mn] H0 12 = some ((Value.string (dw0F Y M D ho mi S W J sec iy iw sn mn)), H', nx') := by
 unfold dwOkF at hok
 obtain ⟨c0_, hok⟩ := aO hok
 unfold dw0F
 try simp only [c0_, cond_true, cond_false]
 exact oS ((hkW laT lpE)) (m := [true]) (p := []) (aC (bT c0_) aN)
def dwA : AFn := moFn 111 dw0F dwOkF
theorem dw_sound : PSound cx0 dwA.pfn := mo_sound dw_ev
def dG0F (Y M D ho mi : Int) (S : Nat) (W J sec iy iw sn mn : Int) : ByteArray := (itoaF iy)
def dGOkF (Y M D ho mi : Int) (S : Nat) (W J sec iy iw sn mn : Int) : Bool := (((i64F iy)) && true)
theorem dG_ev (Y M D ho mi : Int) (S : Nat) (W J sec iy iw sn mn : Int) (hok : dGOkF Y M D ho mi S W J sec iy iw sn mn = true) : ∃ H' nx', evFunc (withFns cx0 laT lpE) 30 115 #[moA Y M D ho mi S W J sec iy iw sn mn] H0 12 = some ((Value.string (dG0F Y M D ho mi S W J sec iy iw sn mn)), H', nx') := by
 unfold dGOkF at hok
 obtain ⟨c0_, hok⟩ := aO hok
 unfold dG0F
 try simp only [c0_, cond_true, cond_false]
 exact oS ((hkW laT lpE)) (m := [true]) (p := []) (aC (bT c0_) aN)
def dGA : AFn := moFn 115 dG0F dGOkF
theorem dG_sound : PSound cx0 dGA.pfn := mo_sound dG_ev
def dm0F (Y M D ho mi : Int) (S : Nat) (W J sec iy iw sn mn : Int) : ByteArray := (ctwo0F (IntKind.i64.wrap (M + 1)))
def dmOkF (Y M D ho mi : Int) (S : Nat) (W J sec iy iw sn mn : Int) : Bool := (((ctwoOkF (IntKind.i64.wrap (M + 1)))) && true)
theorem dm_ev (Y M D ho mi : Int) (S : Nat) (W J sec iy iw sn mn : Int) (hok : dmOkF Y M D ho mi S W J sec iy iw sn mn = true) : ∃ H' nx', evFunc (withFns cx0 laT lpE) 30 98 #[moA Y M D ho mi S W J sec iy iw sn mn] H0 12 = some ((Value.string (dm0F Y M D ho mi S W J sec iy iw sn mn)), H', nx') := by
 unfold dmOkF at hok
 obtain ⟨c0_, hok⟩ := aO hok
 unfold dm0F
 try simp only [c0_, cond_true, cond_false]
 exact oS ((hkW laT lpE)) (m := [true]) (p := []) (aC (bT c0_) aN)
def dmA : AFn := moFn 98 dm0F dmOkF
theorem dm_sound : PSound cx0 dmA.pfn := mo_sound dm_ev
def dS0F (Y M D ho mi : Int) (S : Nat) (W J sec iy iw sn mn : Int) : ByteArray := (ctwo0F (f2i FloatKind.f64 (fround .down S)))
def dSOkF (Y M D ho mi : Int) (S : Nat) (W J sec iy iw sn mn : Int) : Bool := (((froundOk S)) && (((f2iOk FloatKind.f64 (fround .down S) IntKind.i64)) && (((ctwoOkF (f2i FloatKind.f64 (fround .down S)))) && true)))
theorem dS_ev (Y M D ho mi : Int) (S : Nat) (W J sec iy iw sn mn : Int) (hok : dSOkF Y M D ho mi S W J sec iy iw sn mn = true) : ∃ H' nx', evFunc (withFns cx0 laT lpE) 30 102 #[moA Y M D ho mi S W J sec iy iw sn mn] H0 12 = some ((Value.string (dS0F Y M D ho mi S W J sec iy iw sn mn)), H', nx') := by
 unfold dSOkF at hok
 obtain ⟨c0_, hok⟩ := aO hok
 obtain ⟨c1_, hok⟩ := aO hok
 obtain ⟨c2_, hok⟩ := aO hok
 unfold dS0F
 try simp only [c0_, c1_, c2_, cond_true, cond_false]
 exact oS ((hkW laT lpE)) (m := [false, true, true, true]) (p := [true]) (aC c0_ (aC c1_ (aC (bT c2_) aN)))
def dSA : AFn := moFn 102 dS0F dSOkF
theorem dS_sound : PSound cx0 dSA.pfn := mo_sound dS_ev
def dk0F (Y M D ho mi : Int) (S : Nat) (W J sec iy iw sn mn : Int) : ByteArray := (((ByteArray.mk #[]) ++ (repF (ByteArray.mk #[32]) (if ((IntKind.i64.wrap (2 - ((((ByteArray.size (itoaF ho)) : Nat) : Int)))) > 0) then (IntKind.i64.wrap (2 - ((((ByteArray.size (itoaF ho)) : Nat) : Int)))) else 0))) ++ (itoaF ho))
def dkOkF (Y M D ho mi : Int) (S : Nat) (W J sec iy iw sn mn : Int) : Bool := ((!((decide (ho < 0)))) && (((i64F ho)) && (((repOkF (ByteArray.mk (List.toArray [32])) (if ((IntKind.i64.wrap (2 - ((((ByteArray.size (itoaF ho)) : Nat) : Int)))) > 0) then (IntKind.i64.wrap (2 - ((((ByteArray.size (itoaF ho)) : Nat) : Int)))) else 0))) && (((decide ((((((ByteArray.size (ByteArray.mk #[])) + (ByteArray.size (repF (ByteArray.mk #[32]) (if ((IntKind.i64.wrap (2 - ((((ByteArray.size (itoaF ho)) : Nat) : Int)))) > 0) then (IntKind.i64.wrap (2 - ((((ByteArray.size (itoaF ho)) : Nat) : Int)))) else 0)))) : Nat) : Int)) ≤ (Int.ofNat (9223372036854775808 - 1))))) && (((decide ((((((ByteArray.size ((ByteArray.mk #[]) ++ (repF (ByteArray.mk #[32]) (if ((IntKind.i64.wrap (2 - ((((ByteArray.size (itoaF ho)) : Nat) : Int)))) > 0) then (IntKind.i64.wrap (2 - ((((ByteArray.size (itoaF ho)) : Nat) : Int)))) else 0)))) + (ByteArray.size (itoaF ho))) : Nat) : Int)) ≤ (Int.ofNat (9223372036854775808 - 1))))) && true)))))
theorem dk_ev (Y M D ho mi : Int) (S : Nat) (W J sec iy iw sn mn : Int) (hok : dkOkF Y M D ho mi S W J sec iy iw sn mn = true) : ∃ H' nx', evFunc (withFns cx0 laT lpE) 30 108 #[moA Y M D ho mi S W J sec iy iw sn mn] H0 12 = some ((Value.string (dk0F Y M D ho mi S W J sec iy iw sn mn)), H', nx') := by
 unfold dkOkF at hok
 obtain ⟨c0_, hok⟩ := nO hok
 obtain ⟨c1_, hok⟩ := aO hok
 obtain ⟨c2_, hok⟩ := aO hok
 obtain ⟨c3_, hok⟩ := aO hok
 obtain ⟨c4_, hok⟩ := aO hok
 unfold dk0F
 try simp only [c0_, c1_, c2_, c3_, c4_, cond_true, cond_false]
 exact oS ((hkW laT lpE)) (m := (bitsN 5 31)) (p := [false]) (aC (bF c0_) (aC (bT c1_) (aC (bT c2_) (aC c3_ (aC c4_ aN)))))
def dkA : AFn := moFn 108 dk0F dkOkF
theorem dk_sound : PSound cx0 dkA.pfn := mo_sound dk_ev
def dU0F (Y M D ho mi : Int) (S : Nat) (W J sec iy iw sn mn : Int) : ByteArray := (ctwo0F sn)
def dUOkF (Y M D ho mi : Int) (S : Nat) (W J sec iy iw sn mn : Int) : Bool := (((ctwoOkF sn)) && true)
theorem dU_ev (Y M D ho mi : Int) (S : Nat) (W J sec iy iw sn mn : Int) (hok : dUOkF Y M D ho mi S W J sec iy iw sn mn = true) : ∃ H' nx', evFunc (withFns cx0 laT lpE) 30 112 #[moA Y M D ho mi S W J sec iy iw sn mn] H0 12 = some ((Value.string (dU0F Y M D ho mi S W J sec iy iw sn mn)), H', nx') := by
 unfold dUOkF at hok
 obtain ⟨c0_, hok⟩ := aO hok
 unfold dU0F
 try simp only [c0_, cond_true, cond_false]
 exact oS ((hkW laT lpE)) (m := [true]) (p := []) (aC (bT c0_) aN)
def dUA : AFn := moFn 112 dU0F dUOkF
theorem dU_sound : PSound cx0 dUA.pfn := mo_sound dU_ev
def ds0F (Y M D ho mi : Int) (S : Nat) (W J sec iy iw sn mn : Int) : ByteArray := (itoaF sec)
def dsOkF (Y M D ho mi : Int) (S : Nat) (W J sec iy iw sn mn : Int) : Bool := (((i64F sec)) && true)
theorem ds_ev (Y M D ho mi : Int) (S : Nat) (W J sec iy iw sn mn : Int) (hok : dsOkF Y M D ho mi S W J sec iy iw sn mn = true) : ∃ H' nx', evFunc (withFns cx0 laT lpE) 30 117 #[moA Y M D ho mi S W J sec iy iw sn mn] H0 12 = some ((Value.string (ds0F Y M D ho mi S W J sec iy iw sn mn)), H', nx') := by
 unfold dsOkF at hok
 obtain ⟨c0_, hok⟩ := aO hok
 unfold ds0F
 try simp only [c0_, cond_true, cond_false]
 exact oS ((hkW laT lpE)) (m := [true]) (p := []) (aC (bT c0_) aN)
def dsA : AFn := moFn 117 ds0F dsOkF
theorem ds_sound : PSound cx0 dsA.pfn := mo_sound ds_ev
def dd0F (Y M D ho mi : Int) (S : Nat) (W J sec iy iw sn mn : Int) : ByteArray := (ctwo0F D)
def ddOkF (Y M D ho mi : Int) (S : Nat) (W J sec iy iw sn mn : Int) : Bool := (((ctwoOkF D)) && true)
theorem dd_ev (Y M D ho mi : Int) (S : Nat) (W J sec iy iw sn mn : Int) (hok : ddOkF Y M D ho mi S W J sec iy iw sn mn = true) : ∃ H' nx', evFunc (withFns cx0 laT lpE) 30 99 #[moA Y M D ho mi S W J sec iy iw sn mn] H0 12 = some ((Value.string (dd0F Y M D ho mi S W J sec iy iw sn mn)), H', nx') := by
 unfold ddOkF at hok
 obtain ⟨c0_, hok⟩ := aO hok
 unfold dd0F
 try simp only [c0_, cond_true, cond_false]
 exact oS ((hkW laT lpE)) (m := [true]) (p := []) (aC (bT c0_) aN)
def ddA : AFn := moFn 99 dd0F ddOkF
theorem dd_sound : PSound cx0 ddA.pfn := mo_sound dd_ev
def dI0F (Y M D ho mi : Int) (S : Nat) (W J sec iy iw sn mn : Int) : ByteArray := (ctwo0F (IntKind.i64.wrap ((Int.tmod (IntKind.i64.wrap (ho + 11)) 12) + 1)))
def dIOkF (Y M D ho mi : Int) (S : Nat) (W J sec iy iw sn mn : Int) : Bool := (((ctwoOkF (IntKind.i64.wrap ((Int.tmod (IntKind.i64.wrap (ho + 11)) 12) + 1)))) && true)
theorem dI_ev (Y M D ho mi : Int) (S : Nat) (W J sec iy iw sn mn : Int) (hok : dIOkF Y M D ho mi S W J sec iy iw sn mn = true) : ∃ H' nx', evFunc (withFns cx0 laT lpE) 30 103 #[moA Y M D ho mi S W J sec iy iw sn mn] H0 12 = some ((Value.string (dI0F Y M D ho mi S W J sec iy iw sn mn)), H', nx') := by
 unfold dIOkF at hok
 obtain ⟨c0_, hok⟩ := aO hok
 unfold dI0F
 try simp only [c0_, cond_true, cond_false]
 exact oS ((hkW laT lpE)) (m := [false, true]) (p := []) (aC (bT c0_) aN)
def dIA : AFn := moFn 103 dI0F dIOkF
theorem dI_sound : PSound cx0 dIA.pfn := mo_sound dI_ev
def dl0F (Y M D ho mi : Int) (S : Nat) (W J sec iy iw sn mn : Int) : ByteArray := (((ByteArray.mk #[]) ++ (repF (ByteArray.mk #[32]) (if ((IntKind.i64.wrap (2 - ((((ByteArray.size (itoaF (IntKind.i64.wrap ((Int.tmod (IntKind.i64.wrap (ho + 11)) 12) + 1)))) : Nat) : Int)))) > 0) then (IntKind.i64.wrap (2 - ((((ByteArray.size (itoaF (IntKind.i64.wrap ((Int.tmod (IntKind.i64.wrap (ho + 11)) 12) + 1)))) : Nat) : Int)))) else 0))) ++ (itoaF (IntKind.i64.wrap ((Int.tmod (IntKind.i64.wrap (ho + 11)) 12) + 1))))
def dlOkF (Y M D ho mi : Int) (S : Nat) (W J sec iy iw sn mn : Int) : Bool := ((!((decide ((IntKind.i64.wrap ((Int.tmod (IntKind.i64.wrap (ho + 11)) 12) + 1)) < 0)))) && (((i64F (IntKind.i64.wrap ((Int.tmod (IntKind.i64.wrap (ho + 11)) 12) + 1)))) && (((repOkF (ByteArray.mk (List.toArray [32])) (if ((IntKind.i64.wrap (2 - ((((ByteArray.size (itoaF (IntKind.i64.wrap ((Int.tmod (IntKind.i64.wrap (ho + 11)) 12) + 1)))) : Nat) : Int)))) > 0) then (IntKind.i64.wrap (2 - ((((ByteArray.size (itoaF (IntKind.i64.wrap ((Int.tmod (IntKind.i64.wrap (ho + 11)) 12) + 1)))) : Nat) : Int)))) else 0))) && (((decide ((((((ByteArray.size (ByteArray.mk #[])) + (ByteArray.size (repF (ByteArray.mk #[32]) (if ((IntKind.i64.wrap (2 - ((((ByteArray.size (itoaF (IntKind.i64.wrap ((Int.tmod (IntKind.i64.wrap (ho + 11)) 12) + 1)))) : Nat) : Int)))) > 0) then (IntKind.i64.wrap (2 - ((((ByteArray.size (itoaF (IntKind.i64.wrap ((Int.tmod (IntKind.i64.wrap (ho + 11)) 12) + 1)))) : Nat) : Int)))) else 0)))) : Nat) : Int)) ≤ (Int.ofNat (9223372036854775808 - 1))))) && (((decide ((((((ByteArray.size ((ByteArray.mk #[]) ++ (repF (ByteArray.mk #[32]) (if ((IntKind.i64.wrap (2 - ((((ByteArray.size (itoaF (IntKind.i64.wrap ((Int.tmod (IntKind.i64.wrap (ho + 11)) 12) + 1)))) : Nat) : Int)))) > 0) then (IntKind.i64.wrap (2 - ((((ByteArray.size (itoaF (IntKind.i64.wrap ((Int.tmod (IntKind.i64.wrap (ho + 11)) 12) + 1)))) : Nat) : Int)))) else 0)))) + (ByteArray.size (itoaF (IntKind.i64.wrap ((Int.tmod (IntKind.i64.wrap (ho + 11)) 12) + 1))))) : Nat) : Int)) ≤ (Int.ofNat (9223372036854775808 - 1))))) && true)))))
theorem dl_ev (Y M D ho mi : Int) (S : Nat) (W J sec iy iw sn mn : Int) (hok : dlOkF Y M D ho mi S W J sec iy iw sn mn = true) : ∃ H' nx', evFunc (withFns cx0 laT lpE) 30 109 #[moA Y M D ho mi S W J sec iy iw sn mn] H0 12 = some ((Value.string (dl0F Y M D ho mi S W J sec iy iw sn mn)), H', nx') := by
 unfold dlOkF at hok
 obtain ⟨c0_, hok⟩ := nO hok
 obtain ⟨c1_, hok⟩ := aO hok
 obtain ⟨c2_, hok⟩ := aO hok
 obtain ⟨c3_, hok⟩ := aO hok
 obtain ⟨c4_, hok⟩ := aO hok
 unfold dl0F
 try simp only [c0_, c1_, c2_, c3_, c4_, cond_true, cond_false]
 exact oS ((hkW laT lpE)) (m := (bitsN 6 62)) (p := [false]) (aC (bF c0_) (aC (bT c1_) (aC (bT c2_) (aC c3_ (aC c4_ aN)))))
def dlA : AFn := moFn 109 dl0F dlOkF
theorem dl_sound : PSound cx0 dlA.pfn := mo_sound dl_ev
def dW0F (Y M D ho mi : Int) (S : Nat) (W J sec iy iw sn mn : Int) : ByteArray := (ctwo0F mn)
def dWOkF (Y M D ho mi : Int) (S : Nat) (W J sec iy iw sn mn : Int) : Bool := (((ctwoOkF mn)) && true)
theorem dW_ev (Y M D ho mi : Int) (S : Nat) (W J sec iy iw sn mn : Int) (hok : dWOkF Y M D ho mi S W J sec iy iw sn mn = true) : ∃ H' nx', evFunc (withFns cx0 laT lpE) 30 113 #[moA Y M D ho mi S W J sec iy iw sn mn] H0 12 = some ((Value.string (dW0F Y M D ho mi S W J sec iy iw sn mn)), H', nx') := by
 unfold dWOkF at hok
 obtain ⟨c0_, hok⟩ := aO hok
 unfold dW0F
 try simp only [c0_, cond_true, cond_false]
 exact oS ((hkW laT lpE)) (m := [true]) (p := []) (aC (bT c0_) aN)
def dWA : AFn := moFn 113 dW0F dWOkF
theorem dW_sound : PSound cx0 dWA.pfn := mo_sound dW_ev
def dcen0F (y : Int) : Int := (bif (decide ((Int.tmod y 100) < 0)) then (IntKind.i64.wrap ((IntKind.i64.wrap (Int.tdiv y 100)) - 1)) else (IntKind.i64.wrap (Int.tdiv y 100)))
def dcen1F (y : Int) : Int := (bif (decide ((Int.tmod y 100) < 0)) then (IntKind.i64.wrap ((Int.tmod y 100) + 100)) else (Int.tmod y 100))
def dcenOkF (y : Int) : Bool := true
theorem dcen_ev (y : Int) (hok : dcenOkF y = true) : ∃ H' nx', evFunc (withFns cx0 laT lpE) 30 88 #[.int .i64 y] H0 12 = some ((Value.tuple #[(Value.int IntKind.i64 (dcen0F y)), (Value.int IntKind.i64 (dcen1F y))]), H', nx') := by
 unfold dcenOkF at hok
 cases c0_ : ((decide ((Int.tmod y 100) < 0))) with
 | true =>
  unfold dcen0F dcen1F
  simp only [c0_, cond_true, cond_false]
  exact oS ((hkW laT lpE)) (m := [false, false, true]) (p := [true]) (aC (bT c0_) aN)
 | false =>
  unfold dcen0F dcen1F
  simp only [c0_, cond_true, cond_false]
  exact oS ((hkW laT lpE)) (m := [false, false, true]) (p := [false]) (aC (bF c0_) aN)
def dcenV (args : Array Value) : Option Value := match args.toList with
 | [.int .i64 y] => some (Value.tuple #[(Value.int IntKind.i64 (dcen0F y)), (Value.int IntKind.i64 (dcen1F y))])
 | _ => none
def dcenK (args : Array Value) : Bool := match args.toList with
 | [.int .i64 y] => (dcenOkF y == true)
 | _ => false
def dcenA : AFn := { f := 88, val := dcenV, ok := dcenK }
theorem dcen_sound : PSound cx0 dcenA.pfn := psound_startW laT_sound lpE_sound fun args v h => by
 obtain ⟨hv, hk⟩ := afn_some h
 replace hv : dcenV args = some v := hv
 replace hk : dcenK args = true := hk
 unfold dcenV at hv
 split at hv
 ·rename_i y hx
  have ha := args_list hx
  subst ha
  cases hv
  have hok : dcenOkF y = true := by simpa [dcenK] using hk
  exact ⟨rfl, rfl, 30, dcen_ev y hok⟩
 ·cases hv
def dH0F (Y M D ho mi : Int) (S : Nat) (W J sec iy iw sn mn : Int) : ByteArray := (ctwo0F ho)
def dHOkF (Y M D ho mi : Int) (S : Nat) (W J sec iy iw sn mn : Int) : Bool := (((ctwoOkF ho)) && true)
theorem dH_ev (Y M D ho mi : Int) (S : Nat) (W J sec iy iw sn mn : Int) (hok : dHOkF Y M D ho mi S W J sec iy iw sn mn = true) : ∃ H' nx', evFunc (withFns cx0 laT lpE) 30 100 #[moA Y M D ho mi S W J sec iy iw sn mn] H0 12 = some ((Value.string (dH0F Y M D ho mi S W J sec iy iw sn mn)), H', nx') := by
 unfold dHOkF at hok
 obtain ⟨c0_, hok⟩ := aO hok
 unfold dH0F
 try simp only [c0_, cond_true, cond_false]
 exact oS ((hkW laT lpE)) (m := [true]) (p := []) (aC (bT c0_) aN)
def dHA : AFn := moFn 100 dH0F dHOkF
theorem dH_sound : PSound cx0 dHA.pfn := mo_sound dH_ev
def dj0F (Y M D ho mi : Int) (S : Nat) (W J sec iy iw sn mn : Int) : ByteArray := (((ByteArray.mk #[]) ++ (repF (ByteArray.mk #[48]) (if ((IntKind.i64.wrap (3 - ((((ByteArray.size (itoaF (IntKind.i64.wrap (J + 1)))) : Nat) : Int)))) > 0) then (IntKind.i64.wrap (3 - ((((ByteArray.size (itoaF (IntKind.i64.wrap (J + 1)))) : Nat) : Int)))) else 0))) ++ (itoaF (IntKind.i64.wrap (J + 1))))
def djOkF (Y M D ho mi : Int) (S : Nat) (W J sec iy iw sn mn : Int) : Bool := ((!((decide ((IntKind.i64.wrap (J + 1)) < 0)))) && (((i64F (IntKind.i64.wrap (J + 1)))) && (((repOkF (ByteArray.mk (List.toArray [48])) (if ((IntKind.i64.wrap (3 - ((((ByteArray.size (itoaF (IntKind.i64.wrap (J + 1)))) : Nat) : Int)))) > 0) then (IntKind.i64.wrap (3 - ((((ByteArray.size (itoaF (IntKind.i64.wrap (J + 1)))) : Nat) : Int)))) else 0))) && (((decide ((((((ByteArray.size (ByteArray.mk #[])) + (ByteArray.size (repF (ByteArray.mk #[48]) (if ((IntKind.i64.wrap (3 - ((((ByteArray.size (itoaF (IntKind.i64.wrap (J + 1)))) : Nat) : Int)))) > 0) then (IntKind.i64.wrap (3 - ((((ByteArray.size (itoaF (IntKind.i64.wrap (J + 1)))) : Nat) : Int)))) else 0)))) : Nat) : Int)) ≤ (Int.ofNat (9223372036854775808 - 1))))) && (((decide ((((((ByteArray.size ((ByteArray.mk #[]) ++ (repF (ByteArray.mk #[48]) (if ((IntKind.i64.wrap (3 - ((((ByteArray.size (itoaF (IntKind.i64.wrap (J + 1)))) : Nat) : Int)))) > 0) then (IntKind.i64.wrap (3 - ((((ByteArray.size (itoaF (IntKind.i64.wrap (J + 1)))) : Nat) : Int)))) else 0)))) + (ByteArray.size (itoaF (IntKind.i64.wrap (J + 1))))) : Nat) : Int)) ≤ (Int.ofNat (9223372036854775808 - 1))))) && true)))))
theorem dj_ev (Y M D ho mi : Int) (S : Nat) (W J sec iy iw sn mn : Int) (hok : djOkF Y M D ho mi S W J sec iy iw sn mn = true) : ∃ H' nx', evFunc (withFns cx0 laT lpE) 30 105 #[moA Y M D ho mi S W J sec iy iw sn mn] H0 12 = some ((Value.string (dj0F Y M D ho mi S W J sec iy iw sn mn)), H', nx') := by
 unfold djOkF at hok
 obtain ⟨c0_, hok⟩ := nO hok
 obtain ⟨c1_, hok⟩ := aO hok
 obtain ⟨c2_, hok⟩ := aO hok
 obtain ⟨c3_, hok⟩ := aO hok
 obtain ⟨c4_, hok⟩ := aO hok
 unfold dj0F
 try simp only [c0_, c1_, c2_, c3_, c4_, cond_true, cond_false]
 exact oS ((hkW laT lpE)) (m := (bitsN 5 31)) (p := [false]) (aC (bF c0_) (aC (bT c1_) (aC (bT c2_) (aC c3_ (aC c4_ aN)))))
def djA : AFn := moFn 105 dj0F djOkF
theorem dj_sound : PSound cx0 djA.pfn := mo_sound dj_ev
def du0F (Y M D ho mi : Int) (S : Nat) (W J sec iy iw sn mn : Int) : ByteArray := (itoaF (IntKind.i64.wrap ((Int.tmod (IntKind.i64.wrap (W + 6)) 7) + 1)))
def duOkF (Y M D ho mi : Int) (S : Nat) (W J sec iy iw sn mn : Int) : Bool := (((i64F (IntKind.i64.wrap ((Int.tmod (IntKind.i64.wrap (W + 6)) 7) + 1)))) && true)
theorem du_ev (Y M D ho mi : Int) (S : Nat) (W J sec iy iw sn mn : Int) (hok : duOkF Y M D ho mi S W J sec iy iw sn mn = true) : ∃ H' nx', evFunc (withFns cx0 laT lpE) 30 110 #[moA Y M D ho mi S W J sec iy iw sn mn] H0 12 = some ((Value.string (du0F Y M D ho mi S W J sec iy iw sn mn)), H', nx') := by
 unfold duOkF at hok
 obtain ⟨c0_, hok⟩ := aO hok
 unfold du0F
 try simp only [c0_, cond_true, cond_false]
 exact oS ((hkW laT lpE)) (m := [false, true]) (p := []) (aC (bT c0_) aN)
def duA : AFn := moFn 110 du0F duOkF
theorem du_sound : PSound cx0 duA.pfn := mo_sound du_ev
def dV0F (Y M D ho mi : Int) (S : Nat) (W J sec iy iw sn mn : Int) : ByteArray := (ctwo0F iw)
def dVOkF (Y M D ho mi : Int) (S : Nat) (W J sec iy iw sn mn : Int) : Bool := (((ctwoOkF iw)) && true)
theorem dV_ev (Y M D ho mi : Int) (S : Nat) (W J sec iy iw sn mn : Int) (hok : dVOkF Y M D ho mi S W J sec iy iw sn mn = true) : ∃ H' nx', evFunc (withFns cx0 laT lpE) 30 114 #[moA Y M D ho mi S W J sec iy iw sn mn] H0 12 = some ((Value.string (dV0F Y M D ho mi S W J sec iy iw sn mn)), H', nx') := by
 unfold dVOkF at hok
 obtain ⟨c0_, hok⟩ := aO hok
 unfold dV0F
 try simp only [c0_, cond_true, cond_false]
 exact oS ((hkW laT lpE)) (m := [true]) (p := []) (aC (bT c0_) aN)
def dVA : AFn := moFn 114 dV0F dVOkF
theorem dV_sound : PSound cx0 dVA.pfn := mo_sound dV_ev
end Go.Proofs.YthopphfehgdocaaGreatDoor
