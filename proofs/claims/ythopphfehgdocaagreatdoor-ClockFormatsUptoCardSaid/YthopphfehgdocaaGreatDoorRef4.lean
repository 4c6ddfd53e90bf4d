import Derived.Test.YthopphfehgdocaaGreatDoorRef3
set_option linter.unusedSimpArgs false
set_option linter.unusedVariables false
namespace Go.Proofs.YthopphfehgdocaaGreatDoor
open Go Go.RowKit Go.Ev Go.Proofs Go.Shelf
theorem rday_p0 (y m d : Int) (H : Hp) (nx : Nat) (h1 : ((decide (y ≥ ((-9999 : Int)))) == true) = true) (h2 : ((!(decide (y ≤ 9999))) == false) = true) (h3 : ((decide (d < 1)) == false) = true) (h4 : ((decide (d > (lenF y m))) == false) = true) (h5 : ((beginOkF y m) == true) = true) : evFunc (withFns cx0 laE lpE) 30 50 #[.int .i64 y, .int .i64 m, .int .i64 d] H nx = some ((Value.tuple #[(Value.int IntKind.i64 (IntKind.i64.wrap ((IntKind.i64.wrap ((numF y m) + d)) - 1))), (Value.int IntKind.i64 0)]), H, nx + 32) :=
 orc_sel_run ((hkW laE lpE)) (m := [true, true, true, true, true, true, true, true, true, true, true, true, true, true]) (l := [((decide (y ≥ ((-9999 : Int)))) == true), ((decide (y ≥ ((-9999 : Int)))) == true), ((decide (y ≥ ((-9999 : Int)))) == true), ((!(decide (y ≤ 9999))) == false), ((!(decide (y ≤ 9999))) == false), ((!(decide (y ≤ 9999))) == false), ((decide (d < 1)) == false), ((decide (d < 1)) == false), ((decide (d < 1)) == false), ((decide (d < 1)) == false), ((decide (d < 1)) == false), ((decide (d < 1)) == false), ((decide (d > (lenF y m))) == false), ((beginOkF y m) == true)]) (p := [true, true, true, false, false, false, false, false, false, false, false, false, false]) (by kernel_rfl) (by kernel_rfl) (by kernel_rfl) (C3 h1 (C3 h2 (C6 h3 (aC h4 (aC h5 aN)))))
theorem rday_p1 (y m d : Int) (H : Hp) (nx : Nat) (h1 : ((decide (y ≥ ((-9999 : Int)))) == false) = true) : evFunc (withFns cx0 laE lpE) 30 50 #[.int .i64 y, .int .i64 m, .int .i64 d] H nx = some ((Value.tuple #[(Value.int IntKind.i64 0), (Value.int IntKind.i64 110)]), H, nx + 17) :=
 orc_sel_run ((hkW laE lpE)) (m := [true, true, true]) (l := [((decide (y ≥ ((-9999 : Int)))) == false), ((decide (y ≥ ((-9999 : Int)))) == false), ((decide (y ≥ ((-9999 : Int)))) == false)]) (p := [false, false, false, true, true, true, true, true, true, true, true, true, true]) (by kernel_rfl) (by kernel_rfl) (by kernel_rfl) (C3 h1 aN)
theorem rday_p2 (y m d : Int) (H : Hp) (nx : Nat) (h1 : ((decide (y ≥ ((-9999 : Int)))) == true) = true) (h2 : ((!(decide (y ≤ 9999))) == true) = true) : evFunc (withFns cx0 laE lpE) 30 50 #[.int .i64 y, .int .i64 m, .int .i64 d] H nx = some ((Value.tuple #[(Value.int IntKind.i64 0), (Value.int IntKind.i64 110)]), H, nx + 19) :=
 orc_sel_run ((hkW laE lpE)) (m := [true, true, true, true, true, true]) (l := [((decide (y ≥ ((-9999 : Int)))) == true), ((decide (y ≥ ((-9999 : Int)))) == true), ((decide (y ≥ ((-9999 : Int)))) == true), ((!(decide (y ≤ 9999))) == true), ((!(decide (y ≤ 9999))) == true), ((!(decide (y ≤ 9999))) == true)]) (p := [true, true, true, true, true, true, true, true, true, true, true, true, true]) (by kernel_rfl) (by kernel_rfl) (by kernel_rfl) (C3 h1 (C3 h2 aN))
theorem rday_p3 (y m d : Int) (H : Hp) (nx : Nat) (h1 : ((decide (y ≥ ((-9999 : Int)))) == true) = true) (h2 : ((!(decide (y ≤ 9999))) == false) = true) (h3 : ((decide (d < 1)) == true) = true) : evFunc (withFns cx0 laE lpE) 30 50 #[.int .i64 y, .int .i64 m, .int .i64 d] H nx = some ((Value.tuple #[(Value.int IntKind.i64 0), (Value.int IntKind.i64 110)]), H, nx + 21) :=
 orc_sel_run ((hkW laE lpE)) (m := [true, true, true, true, true, true, true, true, true, true, true, true]) (l := [((decide (y ≥ ((-9999 : Int)))) == true), ((decide (y ≥ ((-9999 : Int)))) == true), ((decide (y ≥ ((-9999 : Int)))) == true), ((!(decide (y ≤ 9999))) == false), ((!(decide (y ≤ 9999))) == false), ((!(decide (y ≤ 9999))) == false), ((decide (d < 1)) == true), ((decide (d < 1)) == true), ((decide (d < 1)) == true), ((decide (d < 1)) == true), ((decide (d < 1)) == true), ((decide (d < 1)) == true)]) (p := [true, true, true, false, false, false, true, true, true, true, true, true, true]) (by kernel_rfl) (by kernel_rfl) (by kernel_rfl) (C3 h1 (C3 h2 (C6 h3 aN)))
theorem rday_p4 (y m d : Int) (H : Hp) (nx : Nat) (h1 : ((decide (y ≥ ((-9999 : Int)))) == true) = true) (h2 : ((!(decide (y ≤ 9999))) == false) = true) (h3 : ((decide (d < 1)) == false) = true) (h4 : ((decide (d > (lenF y m))) == true) = true) : evFunc (withFns cx0 laE lpE) 30 50 #[.int .i64 y, .int .i64 m, .int .i64 d] H nx = some ((Value.tuple #[(Value.int IntKind.i64 0), (Value.int IntKind.i64 110)]), H, nx + 26) :=
 orc_sel_run ((hkW laE lpE)) (m := [true, true, true, true, true, true, true, true, true, true, true, true, true]) (l := [((decide (y ≥ ((-9999 : Int)))) == true), ((decide (y ≥ ((-9999 : Int)))) == true), ((decide (y ≥ ((-9999 : Int)))) == true), ((!(decide (y ≤ 9999))) == false), ((!(decide (y ≤ 9999))) == false), ((!(decide (y ≤ 9999))) == false), ((decide (d < 1)) == false), ((decide (d < 1)) == false), ((decide (d < 1)) == false), ((decide (d < 1)) == false), ((decide (d < 1)) == false), ((decide (d < 1)) == false), ((decide (d > (lenF y m))) == true)]) (p := [true, true, true, false, false, false, false, false, false, false, false, false, true]) (by kernel_rfl) (by kernel_rfl) (by kernel_rfl) (C3 h1 (C3 h2 (C6 h3 (aC h4 aN))))
def rday0F (y m d : Int) : Int := (bif (decide (y ≥ ((-9999 : Int)))) then (bif (!(decide (y ≤ 9999))) then 0 else (bif (decide (d < 1)) then 0 else (bif (decide (d > (lenF y m))) then 0 else (IntKind.i64.wrap ((IntKind.i64.wrap ((numF y m) + d)) - 1))))) else 0)
def rday1F (y m d : Int) : Int := (bif (decide (y ≥ ((-9999 : Int)))) then (bif (!(decide (y ≤ 9999))) then 110 else (bif (decide (d < 1)) then 110 else (bif (decide (d > (lenF y m))) then 110 else 0))) else 110)
def rdayOkF (y m d : Int) : Bool := (bif (decide (y ≥ ((-9999 : Int)))) then (bif (!(decide (y ≤ 9999))) then true else (bif (decide (d < 1)) then true else (bif (decide (d > (lenF y m))) then true else (((beginOkF y m)) && true)))) else true)
theorem rday_ev (y m d : Int) (H : Hp) (nx : Nat) (hok : rdayOkF y m d = true) : ∃ k, evFunc (withFns cx0 laE lpE) 30 50 #[.int .i64 y, .int .i64 m, .int .i64 d] H nx = some ((Value.tuple #[(Value.int IntKind.i64 (rday0F y m d)), (Value.int IntKind.i64 (rday1F y m d))]), H, k) := by
 unfold rdayOkF at hok
 cases c0_ : ((decide (y ≥ ((-9999 : Int))))) with
 | true =>
  cases c1_ : ((!(decide (y ≤ 9999)))) with
  | true =>
   unfold rday0F rday1F
   simp only [c0_, c1_, cond_true, cond_false]
   exact ⟨_, rday_p2 y m d H nx (by rw [c0_]; rfl) (by rw [c1_]; rfl)⟩
  | false =>
   cases c2_ : ((decide (d < 1))) with
   | true =>
    unfold rday0F rday1F
    simp only [c0_, c1_, c2_, cond_true, cond_false]
    exact ⟨_, rday_p3 y m d H nx (by rw [c0_]; rfl) (by rw [c1_]; rfl) (by rw [c2_]; rfl)⟩
   | false =>
    cases c3_ : ((decide (d > (lenF y m)))) with
    | true =>
     unfold rday0F rday1F
     simp only [c0_, c1_, c2_, c3_, cond_true, cond_false]
     exact ⟨_, rday_p4 y m d H nx (by rw [c0_]; rfl) (by rw [c1_]; rfl) (by rw [c2_]; rfl) (by rw [c3_]; rfl)⟩
    | false =>
     have c4_ : ((beginOkF y m)) = true := by
      simp only [c0_, c1_, c2_, c3_, Bool.and_eq_true, Bool.not_eq_true', cond_true, cond_false] at hok
      exact hok.1
     replace hok := by
      simp only [c0_, c1_, c2_, c3_, c4_, Bool.not_true, Bool.not_false, Bool.true_and, cond_true, cond_false] at hok
      exact hok
     unfold rday0F rday1F
     simp only [c0_, c1_, c2_, c3_, c4_, cond_true, cond_false]
     exact ⟨_, rday_p0 y m d H nx (by rw [c0_]; rfl) (by rw [c1_]; rfl) (by rw [c2_]; rfl) (by rw [c3_]; rfl) (by rw [c4_]; rfl)⟩
 | false =>
  unfold rday0F rday1F
  simp only [c0_, cond_true, cond_false]
  exact ⟨_, rday_p1 y m d H nx (by rw [c0_]; rfl)⟩
def rdayV (args : Array Value) : Option Value := match args.toList with
 | [.int .i64 y, .int .i64 m, .int .i64 d] => some (Value.tuple #[(Value.int IntKind.i64 (rday0F y m d)), (Value.int IntKind.i64 (rday1F y m d))])
 | _ => none
def rdayK (args : Array Value) : Bool := match args.toList with
 | [.int .i64 y, .int .i64 m, .int .i64 d] => (rdayOkF y m d == true)
 | _ => false
def rdayA : AFn := { f := 50, val := rdayV, ok := rdayK }
theorem rday_sound : PSound cx0 rdayA.pfn := psound_of_evW cx_ok laE_sound lpE_sound fun args v h H nx => by
 obtain ⟨hv, hk⟩ := afn_some h
 replace hv : rdayV args = some v := hv
 replace hk : rdayK args = true := hk
 unfold rdayV at hv
 split at hv
 ·rename_i y m d hx
  have ha := args_list hx
  subst ha
  cases hv
  have hok : rdayOkF y m d = true := by simpa [rdayK] using hk
  obtain ⟨k, e⟩ := rday_ev y m d H nx hok
  exact ⟨30, k, e⟩
 ·cases hv
def rth (n : Int) : Int := IntKind.i64.wrap ((IntKind.i64.wrap (n - ((IntKind.i64.wrap (n + 3)) % 7))) + 3)
theorem rwks_p0 (n : Int) (H : Hp) (nx : Nat) (h1 : (((reF n) != 0) == false) = true) (h2 : ((beginOkF (ryF n) 0) == true) = true) (h3 : ((decide ((rth n) < (numF (ryF n) 0))) == false) = true) (h4 : ((beginOkF (IntKind.i64.wrap ((ryF n) + 1)) 0) == true) = true) (h5 : ((decide ((rth n) ≥ (numF (IntKind.i64.wrap ((ryF n) + 1)) 0))) == false) = true) : evFunc (withFns cx0 laE lpE) 30 171 #[.int .i64 n] H nx = some ((Value.tuple #[(Value.int IntKind.i64 (ryF n)), (Value.int IntKind.i64 (IntKind.i64.wrap ((IntKind.i64.wrap (Int.tdiv (IntKind.i64.wrap ((rth n) - (numF (ryF n) 0))) 7)) + 1))), (Value.int IntKind.i64 (IntKind.i64.wrap (Int.tdiv (IntKind.i64.wrap ((IntKind.i64.wrap ((IntKind.i64.wrap (n - (numF (ryF n) 0))) + 7)) - (wdF n))) 7))), (Value.int IntKind.i64 (IntKind.i64.wrap (Int.tdiv (IntKind.i64.wrap ((IntKind.i64.wrap ((IntKind.i64.wrap (n - (numF (ryF n) 0))) + 7)) - ((IntKind.i64.wrap (n + 3)) % 7))) 7))), (Value.int IntKind.i64 0)]), H, nx + 74) :=
 orc_sel_run ((hkW laE lpE)) (m := [true, true, true, true, true, true, true]) (l := [(((reF n) != 0) == false), ((beginOkF (ryF n) 0) == true), ((beginOkF (ryF n) 0) == true), ((decide ((rth n) < (numF (ryF n) 0))) == false), ((beginOkF (IntKind.i64.wrap ((ryF n) + 1)) 0) == true), ((decide ((rth n) ≥ (numF (IntKind.i64.wrap ((ryF n) + 1)) 0))) == false), ((beginOkF (ryF n) 0) == true)]) (p := [false, false, false]) (by kernel_rfl) (by kernel_rfl) (by kernel_rfl) (aC h1 (C2 h2 (aC h3 (aC h4 (aC h5 (aC h2 aN))))))
theorem rwks_p1 (n : Int) (H : Hp) (nx : Nat) (h1 : (((reF n) != 0) == true) = true) : evFunc (withFns cx0 laE lpE) 30 171 #[.int .i64 n] H nx = some ((Value.tuple #[(Value.int IntKind.i64 0), (Value.int IntKind.i64 0), (Value.int IntKind.i64 0), (Value.int IntKind.i64 0), (Value.int IntKind.i64 (reF n))]), H, nx + 24) :=
 orc_sel_run ((hkW laE lpE)) (m := [true]) (l := [(((reF n) != 0) == true)]) (p := [true]) (by kernel_rfl) (by kernel_rfl) (by kernel_rfl) (aC h1 aN)
theorem rwks_p2 (n : Int) (H : Hp) (nx : Nat) (h1 : (((reF n) != 0) == false) = true) (h2 : ((beginOkF (ryF n) 0) == true) = true) (h3 : ((decide ((rth n) < (numF (ryF n) 0))) == false) = true) (h4 : ((beginOkF (IntKind.i64.wrap ((ryF n) + 1)) 0) == true) = true) (h5 : ((decide ((rth n) ≥ (numF (IntKind.i64.wrap ((ryF n) + 1)) 0))) == true) = true) : evFunc (withFns cx0 laE lpE) 30 171 #[.int .i64 n] H nx = some ((Value.tuple #[(Value.int IntKind.i64 (IntKind.i64.wrap ((ryF n) + 1))), (Value.int IntKind.i64 (IntKind.i64.wrap ((IntKind.i64.wrap (Int.tdiv (IntKind.i64.wrap ((rth n) - (numF (IntKind.i64.wrap ((ryF n) + 1)) 0))) 7)) + 1))), (Value.int IntKind.i64 (IntKind.i64.wrap (Int.tdiv (IntKind.i64.wrap ((IntKind.i64.wrap ((IntKind.i64.wrap (n - (numF (ryF n) 0))) + 7)) - (wdF n))) 7))), (Value.int IntKind.i64 (IntKind.i64.wrap (Int.tdiv (IntKind.i64.wrap ((IntKind.i64.wrap ((IntKind.i64.wrap (n - (numF (ryF n) 0))) + 7)) - ((IntKind.i64.wrap (n + 3)) % 7))) 7))), (Value.int IntKind.i64 0)]), H, nx + 77) :=
 orc_sel_run ((hkW laE lpE)) (m := [true, true, true, true, true, true, true]) (l := [(((reF n) != 0) == false), ((beginOkF (ryF n) 0) == true), ((beginOkF (ryF n) 0) == true), ((decide ((rth n) < (numF (ryF n) 0))) == false), ((beginOkF (IntKind.i64.wrap ((ryF n) + 1)) 0) == true), ((decide ((rth n) ≥ (numF (IntKind.i64.wrap ((ryF n) + 1)) 0))) == true), ((beginOkF (IntKind.i64.wrap ((ryF n) + 1)) 0) == true)]) (p := [false, false, true]) (by kernel_rfl) (by kernel_rfl) (by kernel_rfl) (aC h1 (C2 h2 (aC h3 (aC h4 (aC h5 (aC h4 aN))))))
theorem rwks_p3 (n : Int) (H : Hp) (nx : Nat) (h1 : (((reF n) != 0) == false) = true) (h2 : ((beginOkF (ryF n) 0) == true) = true) (h3 : ((decide ((rth n) < (numF (ryF n) 0))) == true) = true) (h4 : ((beginOkF (IntKind.i64.wrap ((ryF n) + 1)) 0) == true) = true) (h5 : ((decide ((rth n) ≥ (numF (IntKind.i64.wrap ((ryF n) + 1)) 0))) == false) = true) (h6 : ((beginOkF (IntKind.i64.wrap ((ryF n) - 1)) 0) == true) = true) : evFunc (withFns cx0 laE lpE) 30 171 #[.int .i64 n] H nx = some ((Value.tuple #[(Value.int IntKind.i64 (IntKind.i64.wrap ((ryF n) - 1))), (Value.int IntKind.i64 (IntKind.i64.wrap ((IntKind.i64.wrap (Int.tdiv (IntKind.i64.wrap ((rth n) - (numF (IntKind.i64.wrap ((ryF n) - 1)) 0))) 7)) + 1))), (Value.int IntKind.i64 (IntKind.i64.wrap (Int.tdiv (IntKind.i64.wrap ((IntKind.i64.wrap ((IntKind.i64.wrap (n - (numF (ryF n) 0))) + 7)) - (wdF n))) 7))), (Value.int IntKind.i64 (IntKind.i64.wrap (Int.tdiv (IntKind.i64.wrap ((IntKind.i64.wrap ((IntKind.i64.wrap (n - (numF (ryF n) 0))) + 7)) - ((IntKind.i64.wrap (n + 3)) % 7))) 7))), (Value.int IntKind.i64 0)]), H, nx + 77) :=
 orc_sel_run ((hkW laE lpE)) (m := [true, true, true, true, true, true, true]) (l := [(((reF n) != 0) == false), ((beginOkF (ryF n) 0) == true), ((beginOkF (ryF n) 0) == true), ((decide ((rth n) < (numF (ryF n) 0))) == true), ((beginOkF (IntKind.i64.wrap ((ryF n) + 1)) 0) == true), ((decide ((rth n) ≥ (numF (IntKind.i64.wrap ((ryF n) + 1)) 0))) == false), ((beginOkF (IntKind.i64.wrap ((ryF n) - 1)) 0) == true)]) (p := [false, true, false]) (by kernel_rfl) (by kernel_rfl) (by kernel_rfl) (aC h1 (C2 h2 (aC h3 (aC h4 (aC h5 (aC h6 aN))))))
def rwks0F (n : Int) : Int := (bif ((reF n) != 0) then 0 else (bif (decide ((rth n) < (numF (ryF n) 0))) then (IntKind.i64.wrap ((ryF n) - 1)) else (bif (decide ((rth n) ≥ (numF (IntKind.i64.wrap ((ryF n) + 1)) 0))) then (IntKind.i64.wrap ((ryF n) + 1)) else (ryF n))))
def rwks1F (n : Int) : Int := (bif ((reF n) != 0) then 0 else (bif (decide ((rth n) < (numF (ryF n) 0))) then (IntKind.i64.wrap ((IntKind.i64.wrap (Int.tdiv (IntKind.i64.wrap ((rth n) - (numF (IntKind.i64.wrap ((ryF n) - 1)) 0))) 7)) + 1)) else (bif (decide ((rth n) ≥ (numF (IntKind.i64.wrap ((ryF n) + 1)) 0))) then (IntKind.i64.wrap ((IntKind.i64.wrap (Int.tdiv (IntKind.i64.wrap ((rth n) - (numF (IntKind.i64.wrap ((ryF n) + 1)) 0))) 7)) + 1)) else (IntKind.i64.wrap ((IntKind.i64.wrap (Int.tdiv (IntKind.i64.wrap ((rth n) - (numF (ryF n) 0))) 7)) + 1)))))
def rwks2F (n : Int) : Int := (bif ((reF n) != 0) then 0 else (IntKind.i64.wrap (Int.tdiv (IntKind.i64.wrap ((IntKind.i64.wrap ((IntKind.i64.wrap (n - (numF (ryF n) 0))) + 7)) - (wdF n))) 7)))
def rwks3F (n : Int) : Int := (bif ((reF n) != 0) then 0 else (IntKind.i64.wrap (Int.tdiv (IntKind.i64.wrap ((IntKind.i64.wrap ((IntKind.i64.wrap (n - (numF (ryF n) 0))) + 7)) - ((IntKind.i64.wrap (n + 3)) % 7))) 7)))
def rwks4F (n : Int) : Int := (bif ((reF n) != 0) then (reF n) else 0)
def rwksOkF (n : Int) : Bool := (bif ((reF n) != 0) then true else (((beginOkF (ryF n) 0)) && (bif (decide ((rth n) < (numF (ryF n) 0))) then (((beginOkF (IntKind.i64.wrap ((ryF n) + 1)) 0)) && ((!((decide ((rth n) ≥ (numF (IntKind.i64.wrap ((ryF n) + 1)) 0))))) && (((beginOkF (IntKind.i64.wrap ((ryF n) - 1)) 0)) && true))) else (((beginOkF (IntKind.i64.wrap ((ryF n) + 1)) 0)) && true))))
theorem rwks_ev (n : Int) (H : Hp) (nx : Nat) (hok : rwksOkF n = true) : ∃ k, evFunc (withFns cx0 laE lpE) 30 171 #[.int .i64 n] H nx = some ((Value.tuple #[(Value.int IntKind.i64 (rwks0F n)), (Value.int IntKind.i64 (rwks1F n)), (Value.int IntKind.i64 (rwks2F n)), (Value.int IntKind.i64 (rwks3F n)), (Value.int IntKind.i64 (rwks4F n))]), H, k) := by
 unfold rwksOkF at hok
 cases c0_ : (((reF n) != 0)) with
 | true =>
  unfold rwks0F rwks1F rwks2F rwks3F rwks4F
  simp only [c0_, cond_true, cond_false]
  exact ⟨_, rwks_p1 n H nx (by rw [c0_]; rfl)⟩
 | false =>
  have c1_ : ((beginOkF (ryF n) 0)) = true := by
   simp only [c0_, Bool.and_eq_true, Bool.not_eq_true', cond_true, cond_false] at hok
   exact hok.1
  replace hok := by
   simp only [c0_, c1_, Bool.not_true, Bool.not_false, Bool.true_and, cond_true, cond_false] at hok
   exact hok
  cases c2_ : ((decide ((rth n) < (numF (ryF n) 0)))) with
  | true =>
   have c3_ : ((beginOkF (IntKind.i64.wrap ((ryF n) + 1)) 0)) = true := by
    simp only [c0_, c1_, c2_, Bool.and_eq_true, Bool.not_eq_true', cond_true, cond_false] at hok
    exact hok.1
   replace hok := by
    simp only [c0_, c1_, c2_, c3_, Bool.not_true, Bool.not_false, Bool.true_and, cond_true, cond_false] at hok
    exact hok
   have c4_ : ((decide ((rth n) ≥ (numF (IntKind.i64.wrap ((ryF n) + 1)) 0)))) = false := by
    simp only [c0_, c1_, c2_, c3_, Bool.and_eq_true, Bool.not_eq_true', cond_true, cond_false] at hok
    exact hok.1
   replace hok := by
    simp only [c0_, c1_, c2_, c3_, c4_, Bool.not_true, Bool.not_false, Bool.true_and, cond_true, cond_false] at hok
    exact hok
   obtain ⟨c5_, hok⟩ := aO hok
   unfold rwks0F rwks1F rwks2F rwks3F rwks4F
   simp only [c0_, c1_, c2_, c3_, c4_, c5_, cond_true, cond_false]
   exact ⟨_, rwks_p3 n H nx (by rw [c0_]; rfl) (by rw [c1_]; rfl) (by rw [c2_]; rfl) (by rw [c3_]; rfl) (by rw [c4_]; rfl) (by rw [c5_]; rfl)⟩
  | false =>
   have c3_ : ((beginOkF (IntKind.i64.wrap ((ryF n) + 1)) 0)) = true := by
    simp only [c0_, c1_, c2_, Bool.and_eq_true, Bool.not_eq_true', cond_true, cond_false] at hok
    exact hok.1
   replace hok := by
    simp only [c0_, c1_, c2_, c3_, Bool.not_true, Bool.not_false, Bool.true_and, cond_true, cond_false] at hok
    exact hok
   cases c4_ : ((decide ((rth n) ≥ (numF (IntKind.i64.wrap ((ryF n) + 1)) 0)))) with
   | true =>
    unfold rwks0F rwks1F rwks2F rwks3F rwks4F
    simp only [c0_, c1_, c2_, c3_, c4_, cond_true, cond_false]
    exact ⟨_, rwks_p2 n H nx (by rw [c0_]; rfl) (by rw [c1_]; rfl) (by rw [c2_]; rfl) (by rw [c3_]; rfl) (by rw [c4_]; rfl)⟩
   | false =>
    unfold rwks0F rwks1F rwks2F rwks3F rwks4F
    simp only [c0_, c1_, c2_, c3_, c4_, cond_true, cond_false]
    exact ⟨_, rwks_p0 n H nx (by rw [c0_]; rfl) (by rw [c1_]; rfl) (by rw [c2_]; rfl) (by rw [c3_]; rfl) (by rw [c4_]; rfl)⟩
def rwksV (args : Array Value) : Option Value := match args.toList with
 | [.int .i64 n] => some (Value.tuple #[(Value.int IntKind.i64 (rwks0F n)), (Value.int IntKind.i64 (rwks1F n)), (Value.int IntKind.i64 (rwks2F n)), (Value.int IntKind.i64 (rwks3F n)), (Value.int IntKind.i64 (rwks4F n))])
 | _ => none
def rwksK (args : Array Value) : Bool := match args.toList with
 | [.int .i64 n] => (rwksOkF n == true)
 | _ => false
def rwksA : AFn := { f := 171, val := rwksV, ok := rwksK }
theorem rwks_sound : PSound cx0 rwksA.pfn := psound_of_evW cx_ok laE_sound lpE_sound fun args v h H nx => by
 obtain ⟨hv, hk⟩ := afn_some h
 replace hv : rwksV args = some v := hv
 replace hk : rwksK args = true := hk
 unfold rwksV at hv
 split at hv
 ·rename_i n hx
  have ha := args_list hx
  subst ha
  cases hv
  have hok : rwksOkF n = true := by simpa [rwksK] using hk
  obtain ⟨k, e⟩ := rwks_ev n H nx hok
  exact ⟨30, k, e⟩
 ·cases hv
def cspT (x : Nat) {α : Type} (a b : α) : α := bif ((Ieee.Format.order (FloatKind.f64.format) (fround .down x) (fround .down x)) != (some Ordering.eq)) then b else bif ((Ieee.Format.order (FloatKind.f64.format) (Int.toNat (IntKind.u64.wrap ((((BitVec.toNat ((BitVec.ofInt 64 ((((fround .down x) : Nat) : Int))) &&& (~~~(BitVec.ofInt 64 9223372036854775808)))) : Nat) : Int)))) 4786511204640096256) == (some Ordering.gt)) then b else bif ((reF (IntKind.i64.wrap ((f2i FloatKind.f64 (fround .down x)) / 86400))) != 0) then b else a
def csplit0F (x : Nat) : Int := cspT x (ryF (IntKind.i64.wrap ((f2i FloatKind.f64 (fround .down x)) / 86400))) 0
def csplit1F (x : Nat) : Int := cspT x (rmF (IntKind.i64.wrap ((f2i FloatKind.f64 (fround .down x)) / 86400))) 0
def csplit2F (x : Nat) : Int := cspT x (rdF (IntKind.i64.wrap ((f2i FloatKind.f64 (fround .down x)) / 86400))) 0
def csplit3F (x : Nat) : Int := cspT x (IntKind.i64.wrap (Int.tdiv ((f2i FloatKind.f64 (fround .down x)) % 86400) 3600)) 0
def csplit4F (x : Nat) : Int := cspT x (Int.tmod (IntKind.i64.wrap (Int.tdiv ((f2i FloatKind.f64 (fround .down x)) % 86400) 60)) 60) 0
def csplit5F (x : Nat) : Nat := cspT x (fval (Ieee.Format.add (FloatKind.f64.format) (FloatKind.nearest .f64 (Int.tmod ((f2i FloatKind.f64 (fround .down x)) % 86400) 60)) (fval (Ieee.Format.sub (FloatKind.f64.format) x (fround .down x))))) 0
def csplit6F (x : Nat) : Int := cspT x (wdF (IntKind.i64.wrap ((f2i FloatKind.f64 (fround .down x)) / 86400))) 0
def csplit7F (x : Nat) : Int := cspT x (IntKind.i64.wrap ((IntKind.i64.wrap ((f2i FloatKind.f64 (fround .down x)) / 86400)) - (numdF (ryF (IntKind.i64.wrap ((f2i FloatKind.f64 (fround .down x)) / 86400))) 0 1))) 0
def csplit8F (x : Nat) : Int := (bif ((Ieee.Format.order (FloatKind.f64.format) (fround .down x) (fround .down x)) != (some Ordering.eq)) then 110 else (bif ((Ieee.Format.order (FloatKind.f64.format) (Int.toNat (IntKind.u64.wrap ((((BitVec.toNat ((BitVec.ofInt 64 ((((fround .down x) : Nat) : Int))) &&& (~~~(BitVec.ofInt 64 9223372036854775808)))) : Nat) : Int)))) 4786511204640096256) == (some Ordering.gt)) then 110 else (bif ((reF (IntKind.i64.wrap ((f2i FloatKind.f64 (fround .down x)) / 86400))) != 0) then (reF (IntKind.i64.wrap ((f2i FloatKind.f64 (fround .down x)) / 86400))) else 0)))
def csplitOkF (x : Nat) : Bool := (((froundOk x)) && (bif ((Ieee.Format.order (FloatKind.f64.format) (fround .down x) (fround .down x)) != (some Ordering.eq)) then true else (bif ((Ieee.Format.order (FloatKind.f64.format) (Int.toNat (IntKind.u64.wrap ((((BitVec.toNat ((BitVec.ofInt 64 ((((fround .down x) : Nat) : Int))) &&& (~~~(BitVec.ofInt 64 9223372036854775808)))) : Nat) : Int)))) 4786511204640096256) == (some Ordering.gt)) then true else (((f2iOk FloatKind.f64 (fround .down x) IntKind.i64)) && (bif ((reF (IntKind.i64.wrap ((f2i FloatKind.f64 (fround .down x)) / 86400))) != 0) then true else (((Option.isSome (Ieee.Format.sub (FloatKind.f64.format) x (fround .down x)))) && (((Option.isSome (Ieee.Format.add (FloatKind.f64.format) (FloatKind.nearest .f64 (Int.tmod ((f2i FloatKind.f64 (fround .down x)) % 86400) 60)) (fval (Ieee.Format.sub (FloatKind.f64.format) x (fround .down x)))))) && (((numOkF (ryF (IntKind.i64.wrap ((f2i FloatKind.f64 (fround .down x)) / 86400))) 0 1)) && true))))))))
theorem csplit_ev (x : Nat) (hok : csplitOkF x = true) : ∃ H' nx', evFunc (withFns cx0 laE lpE) 30 16 #[.float .f64 x] H0 12 = some ((Value.tuple #[(Value.agg #[(Value.int IntKind.i64 (csplit0F x)), (Value.int IntKind.i64 (csplit1F x)), (Value.int IntKind.i64 (csplit2F x)), (Value.int IntKind.i64 (csplit3F x)), (Value.int IntKind.i64 (csplit4F x)), (Value.float FloatKind.f64 (csplit5F x)), (Value.int IntKind.i64 (csplit6F x)), (Value.int IntKind.i64 (csplit7F x))]), (Value.int IntKind.i64 (csplit8F x))]), H', nx') := by
 unfold csplitOkF at hok
 obtain ⟨c0_, hok⟩ := aO hok
 cases c1_ : (((Ieee.Format.order (FloatKind.f64.format) (fround .down x) (fround .down x)) != (some Ordering.eq))) with
 | true =>
  unfold csplit0F csplit1F csplit2F csplit3F csplit4F csplit5F csplit6F csplit7F csplit8F cspT
  simp only [c0_, c1_, cond_true, cond_false]
  exact oS ((hkW laE lpE)) (m := (bitsN 6 62)) (p := (bitsN 6 63)) (aC c0_ (C4 (bT c1_) aN))
 | false =>
  cases c2_ : (((Ieee.Format.order (FloatKind.f64.format) (Int.toNat (IntKind.u64.wrap ((((BitVec.toNat ((BitVec.ofInt 64 ((((fround .down x) : Nat) : Int))) &&& (~~~(BitVec.ofInt 64 9223372036854775808)))) : Nat) : Int)))) 4786511204640096256) == (some Ordering.gt))) with
  | true =>
   unfold csplit0F csplit1F csplit2F csplit3F csplit4F csplit5F csplit6F csplit7F csplit8F cspT
   simp only [c0_, c1_, c2_, cond_true, cond_false]
   exact oS ((hkW laE lpE)) (m := (bitsN 7 126)) (p := (bitsN 6 33)) (aC c0_ (C4 (bF c1_) (aC (bT c2_) aN)))
  | false =>
   have c3_ : ((f2iOk FloatKind.f64 (fround .down x) IntKind.i64)) = true := by
    simp only [c0_, c1_, c2_, Bool.and_eq_true, Bool.not_eq_true', cond_true, cond_false] at hok
    exact hok.1
   replace hok := by
    simp only [c0_, c1_, c2_, c3_, Bool.not_true, Bool.not_false, Bool.true_and, cond_true, cond_false] at hok
    exact hok
   cases c4_ : (((reF (IntKind.i64.wrap ((f2i FloatKind.f64 (fround .down x)) / 86400))) != 0)) with
   | true =>
    unfold csplit0F csplit1F csplit2F csplit3F csplit4F csplit5F csplit6F csplit7F csplit8F cspT
    simp only [c0_, c1_, c2_, c3_, c4_, cond_true, cond_false]
    exact oS ((hkW laE lpE)) (m := (bitsN 9 510)) (p := (bitsN 7 65)) (aC c0_ (C4 (bF c1_) (aC (bF c2_) (aC c3_ (aC (bT c4_) aN)))))
   | false =>
    have c5_ : ((Option.isSome (Ieee.Format.sub (FloatKind.f64.format) x (fround .down x)))) = true := by
     simp only [c0_, c1_, c2_, c3_, c4_, Bool.and_eq_true, Bool.not_eq_true', cond_true, cond_false] at hok
     exact hok.1
    replace hok := by
     simp only [c0_, c1_, c2_, c3_, c4_, c5_, Bool.not_true, Bool.not_false, Bool.true_and, cond_true, cond_false] at hok
     exact hok
    obtain ⟨c6_, hok⟩ := aO hok
    obtain ⟨c7_, hok⟩ := aO hok
    unfold csplit0F csplit1F csplit2F csplit3F csplit4F csplit5F csplit6F csplit7F csplit8F cspT
    simp only [c0_, c1_, c2_, c3_, c4_, c5_, c6_, c7_, cond_true, cond_false]
    exact oS ((hkW laE lpE)) (m := (bitsN 16 57854)) (p := (bitsN 7 1)) (aC c0_ (C4 (bF c1_) (aC (bF c2_) (aC c3_ (aC (bF c4_) (aC c5_ (aC c6_ (aC (bT c7_) aN))))))))
def csplitV (args : Array Value) : Option Value := match args.toList with
 | [.float .f64 x] => some (Value.tuple #[(Value.agg #[(Value.int IntKind.i64 (csplit0F x)), (Value.int IntKind.i64 (csplit1F x)), (Value.int IntKind.i64 (csplit2F x)), (Value.int IntKind.i64 (csplit3F x)), (Value.int IntKind.i64 (csplit4F x)), (Value.float FloatKind.f64 (csplit5F x)), (Value.int IntKind.i64 (csplit6F x)), (Value.int IntKind.i64 (csplit7F x))]), (Value.int IntKind.i64 (csplit8F x))])
 | _ => none
def csplitK (args : Array Value) : Bool := match args.toList with
 | [.float .f64 x] => (csplitOkF x == true)
 | _ => false
def csplitA : AFn := { f := 16, val := csplitV, ok := csplitK }
theorem csplit_sound : PSound cx0 csplitA.pfn := psound_startW laE_sound lpE_sound fun args v h => by
 obtain ⟨hv, hk⟩ := afn_some h
 replace hv : csplitV args = some v := hv
 replace hk : csplitK args = true := hk
 unfold csplitV at hv
 split at hv
 ·rename_i x hx
  have ha := args_list hx
  subst ha
  cases hv
  have hok : csplitOkF x = true := by simpa [csplitK] using hk
  exact ⟨rfl, rfl, 30, csplit_ev x hok⟩
 ·cases hv
def rspT (x : Nat) {α : Type} (a b : α) : α := bif (((Ieee.Format.order (FloatKind.f64.format) (fround .down x) 14054727237768577024) == (some Ordering.gt)) || ((Ieee.Format.order (FloatKind.f64.format) (fround .down x) 14054727237768577024) == (some Ordering.eq))) then b else a
def rsplit0F (x : Nat) : Int := rspT x 0 ((bif (!(((Ieee.Format.order (FloatKind.f64.format) (fround .down x) 4831355200913801216) == (some Ordering.lt)) || ((Ieee.Format.order (FloatKind.f64.format) (fround .down x) 4831355200913801216) == (some Ordering.eq)))) then 0 else (bif ((reF (IntKind.i64.wrap ((f2i FloatKind.f64 (fround .down x)) / 86400))) != 0) then 0 else (ryF (IntKind.i64.wrap ((f2i FloatKind.f64 (fround .down x)) / 86400))))))
def rsplit1F (x : Nat) : Int := rspT x 0 ((bif (!(((Ieee.Format.order (FloatKind.f64.format) (fround .down x) 4831355200913801216) == (some Ordering.lt)) || ((Ieee.Format.order (FloatKind.f64.format) (fround .down x) 4831355200913801216) == (some Ordering.eq)))) then 0 else (bif ((reF (IntKind.i64.wrap ((f2i FloatKind.f64 (fround .down x)) / 86400))) != 0) then 0 else (rmF (IntKind.i64.wrap ((f2i FloatKind.f64 (fround .down x)) / 86400))))))
def rsplit2F (x : Nat) : Int := rspT x 0 ((bif (!(((Ieee.Format.order (FloatKind.f64.format) (fround .down x) 4831355200913801216) == (some Ordering.lt)) || ((Ieee.Format.order (FloatKind.f64.format) (fround .down x) 4831355200913801216) == (some Ordering.eq)))) then 0 else (bif ((reF (IntKind.i64.wrap ((f2i FloatKind.f64 (fround .down x)) / 86400))) != 0) then 0 else (rdF (IntKind.i64.wrap ((f2i FloatKind.f64 (fround .down x)) / 86400))))))
def rsplit3F (x : Nat) : Int := rspT x 0 ((bif (!(((Ieee.Format.order (FloatKind.f64.format) (fround .down x) 4831355200913801216) == (some Ordering.lt)) || ((Ieee.Format.order (FloatKind.f64.format) (fround .down x) 4831355200913801216) == (some Ordering.eq)))) then 0 else (bif ((reF (IntKind.i64.wrap ((f2i FloatKind.f64 (fround .down x)) / 86400))) != 0) then 0 else (IntKind.i64.wrap (Int.tdiv ((f2i FloatKind.f64 (fround .down x)) % 86400) 3600)))))
def rsplit4F (x : Nat) : Int := rspT x 0 ((bif (!(((Ieee.Format.order (FloatKind.f64.format) (fround .down x) 4831355200913801216) == (some Ordering.lt)) || ((Ieee.Format.order (FloatKind.f64.format) (fround .down x) 4831355200913801216) == (some Ordering.eq)))) then 0 else (bif ((reF (IntKind.i64.wrap ((f2i FloatKind.f64 (fround .down x)) / 86400))) != 0) then 0 else (Int.tmod (IntKind.i64.wrap (Int.tdiv ((f2i FloatKind.f64 (fround .down x)) % 86400) 60)) 60))))
def rsplit5F (x : Nat) : Nat := rspT x 0 ((bif (!(((Ieee.Format.order (FloatKind.f64.format) (fround .down x) 4831355200913801216) == (some Ordering.lt)) || ((Ieee.Format.order (FloatKind.f64.format) (fround .down x) 4831355200913801216) == (some Ordering.eq)))) then 0 else (bif ((reF (IntKind.i64.wrap ((f2i FloatKind.f64 (fround .down x)) / 86400))) != 0) then 0 else (fval (Ieee.Format.add (FloatKind.f64.format) (FloatKind.nearest .f64 (Int.tmod ((f2i FloatKind.f64 (fround .down x)) % 86400) 60)) (fval (Ieee.Format.sub (FloatKind.f64.format) x (fround .down x))))))))
def rsplit6F (x : Nat) : Int := rspT x 0 ((bif (!(((Ieee.Format.order (FloatKind.f64.format) (fround .down x) 4831355200913801216) == (some Ordering.lt)) || ((Ieee.Format.order (FloatKind.f64.format) (fround .down x) 4831355200913801216) == (some Ordering.eq)))) then 0 else (bif ((reF (IntKind.i64.wrap ((f2i FloatKind.f64 (fround .down x)) / 86400))) != 0) then 0 else (wdF (IntKind.i64.wrap ((f2i FloatKind.f64 (fround .down x)) / 86400))))))
def rsplit7F (x : Nat) : Int := rspT x 0 ((bif (!(((Ieee.Format.order (FloatKind.f64.format) (fround .down x) 4831355200913801216) == (some Ordering.lt)) || ((Ieee.Format.order (FloatKind.f64.format) (fround .down x) 4831355200913801216) == (some Ordering.eq)))) then 0 else (bif ((reF (IntKind.i64.wrap ((f2i FloatKind.f64 (fround .down x)) / 86400))) != 0) then 0 else (IntKind.i64.wrap ((IntKind.i64.wrap ((f2i FloatKind.f64 (fround .down x)) / 86400)) - (numF (ryF (IntKind.i64.wrap ((f2i FloatKind.f64 (fround .down x)) / 86400))) 0))))))
def rsplit8F (x : Nat) : Int := rspT x 110 ((bif (!(((Ieee.Format.order (FloatKind.f64.format) (fround .down x) 4831355200913801216) == (some Ordering.lt)) || ((Ieee.Format.order (FloatKind.f64.format) (fround .down x) 4831355200913801216) == (some Ordering.eq)))) then 110 else (bif ((reF (IntKind.i64.wrap ((f2i FloatKind.f64 (fround .down x)) / 86400))) != 0) then (reF (IntKind.i64.wrap ((f2i FloatKind.f64 (fround .down x)) / 86400))) else 0)))
def rsplitOkF (x : Nat) : Bool := (((froundOk x)) && (bif (((Ieee.Format.order (FloatKind.f64.format) (fround .down x) 14054727237768577024) == (some Ordering.gt)) || ((Ieee.Format.order (FloatKind.f64.format) (fround .down x) 14054727237768577024) == (some Ordering.eq))) then (bif (!(((Ieee.Format.order (FloatKind.f64.format) (fround .down x) 4831355200913801216) == (some Ordering.lt)) || ((Ieee.Format.order (FloatKind.f64.format) (fround .down x) 4831355200913801216) == (some Ordering.eq)))) then true else (((f2iOk FloatKind.f64 (fround .down x) IntKind.i64)) && (bif ((reF (IntKind.i64.wrap ((f2i FloatKind.f64 (fround .down x)) / 86400))) != 0) then true else (((beginOkF (ryF (IntKind.i64.wrap ((f2i FloatKind.f64 (fround .down x)) / 86400))) 0)) && (((Option.isSome (Ieee.Format.sub (FloatKind.f64.format) x (fround .down x)))) && (((Option.isSome (Ieee.Format.add (FloatKind.f64.format) (FloatKind.nearest .f64 (Int.tmod ((f2i FloatKind.f64 (fround .down x)) % 86400) 60)) (fval (Ieee.Format.sub (FloatKind.f64.format) x (fround .down x)))))) && true)))))) else true))
theorem rsplit_ev (x : Nat) (hok : rsplitOkF x = true) : ∃ H' nx', evFunc (withFns cx0 laE lpE) 30 20 #[.float .f64 x] H0 12 = some ((Value.tuple #[(Value.agg #[(Value.int IntKind.i64 (rsplit0F x)), (Value.int IntKind.i64 (rsplit1F x)), (Value.int IntKind.i64 (rsplit2F x)), (Value.int IntKind.i64 (rsplit3F x)), (Value.int IntKind.i64 (rsplit4F x)), (Value.float FloatKind.f64 (rsplit5F x)), (Value.int IntKind.i64 (rsplit6F x)), (Value.int IntKind.i64 (rsplit7F x))]), (Value.int IntKind.i64 (rsplit8F x))]), H', nx') := by
 unfold rsplitOkF at hok
 obtain ⟨c0_, hok⟩ := aO hok
 cases c1_ : ((((Ieee.Format.order (FloatKind.f64.format) (fround .down x) 14054727237768577024) == (some Ordering.gt)) || ((Ieee.Format.order (FloatKind.f64.format) (fround .down x) 14054727237768577024) == (some Ordering.eq)))) with
 | true =>
  cases c2_ : ((!(((Ieee.Format.order (FloatKind.f64.format) (fround .down x) 4831355200913801216) == (some Ordering.lt)) || ((Ieee.Format.order (FloatKind.f64.format) (fround .down x) 4831355200913801216) == (some Ordering.eq))))) with
  | true =>
   unfold rsplit0F rsplit1F rsplit2F rsplit3F rsplit4F rsplit5F rsplit6F rsplit7F rsplit8F rspT
   simp only [c0_, c1_, c2_, cond_true, cond_false]
   exact oS ((hkW laE lpE)) (m := (bitsN 6 62)) (p := (bitsN 5 31)) (aC c0_ (C3 (bT c1_) (aC (bT c2_) aN)))
  | false =>
   have c3_ : ((f2iOk FloatKind.f64 (fround .down x) IntKind.i64)) = true := by
    simp only [c0_, c1_, c2_, Bool.and_eq_true, Bool.not_eq_true', cond_true, cond_false] at hok
    exact hok.1
   replace hok := by
    simp only [c0_, c1_, c2_, c3_, Bool.not_true, Bool.not_false, Bool.true_and, cond_true, cond_false] at hok
    exact hok
   cases c4_ : (((reF (IntKind.i64.wrap ((f2i FloatKind.f64 (fround .down x)) / 86400))) != 0)) with
   | true =>
    unfold rsplit0F rsplit1F rsplit2F rsplit3F rsplit4F rsplit5F rsplit6F rsplit7F rsplit8F rspT
    simp only [c0_, c1_, c2_, c3_, c4_, cond_true, cond_false]
    exact oS ((hkW laE lpE)) (m := (bitsN 8 254)) (p := (bitsN 6 47)) (aC c0_ (C3 (bT c1_) (aC (bF c2_) (aC c3_ (aC (bT c4_) aN)))))
   | false =>
    have c5_ : ((beginOkF (ryF (IntKind.i64.wrap ((f2i FloatKind.f64 (fround .down x)) / 86400))) 0)) = true := by
     simp only [c0_, c1_, c2_, c3_, c4_, Bool.and_eq_true, Bool.not_eq_true', cond_true, cond_false] at hok
     exact hok.1
    replace hok := by
     simp only [c0_, c1_, c2_, c3_, c4_, c5_, Bool.not_true, Bool.not_false, Bool.true_and, cond_true, cond_false] at hok
     exact hok
    obtain ⟨c6_, hok⟩ := aO hok
    obtain ⟨c7_, hok⟩ := aO hok
    unfold rsplit0F rsplit1F rsplit2F rsplit3F rsplit4F rsplit5F rsplit6F rsplit7F rsplit8F rspT
    simp only [c0_, c1_, c2_, c3_, c4_, c5_, c6_, c7_, cond_true, cond_false]
    exact oS ((hkW laE lpE)) (m := (bitsN 15 26878)) (p := (bitsN 6 15)) (aC c0_ (C3 (bT c1_) (aC (bF c2_) (aC c3_ (aC (bF c4_) (aC (bT c5_) (aC c6_ (aC c7_ aN))))))))
 | false =>
  unfold rsplit0F rsplit1F rsplit2F rsplit3F rsplit4F rsplit5F rsplit6F rsplit7F rsplit8F rspT
  simp only [c0_, c1_, cond_true, cond_false]
  exact oS ((hkW laE lpE)) (m := (bitsN 5 30)) (p := (bitsN 5 17)) (aC c0_ (C3 (bF c1_) aN))
def rsplitV (args : Array Value) : Option Value := match args.toList with
 | [.float .f64 x] => some (Value.tuple #[(Value.agg #[(Value.int IntKind.i64 (rsplit0F x)), (Value.int IntKind.i64 (rsplit1F x)), (Value.int IntKind.i64 (rsplit2F x)), (Value.int IntKind.i64 (rsplit3F x)), (Value.int IntKind.i64 (rsplit4F x)), (Value.float FloatKind.f64 (rsplit5F x)), (Value.int IntKind.i64 (rsplit6F x)), (Value.int IntKind.i64 (rsplit7F x))]), (Value.int IntKind.i64 (rsplit8F x))])
 | _ => none
def rsplitK (args : Array Value) : Bool := match args.toList with
 | [.float .f64 x] => (rsplitOkF x == true)
 | _ => false
def rsplitA : AFn := { f := 20, val := rsplitV, ok := rsplitK }
theorem rsplit_sound : PSound cx0 rsplitA.pfn := psound_startW laE_sound lpE_sound fun args v h => by
 obtain ⟨hv, hk⟩ := afn_some h
 replace hv : rsplitV args = some v := hv
 replace hk : rsplitK args = true := hk
 unfold rsplitV at hv
 split at hv
 ·rename_i x hx
  have ha := args_list hx
  subst ha
  cases hv
  have hok : rsplitOkF x = true := by simpa [rsplitK] using hk
  exact ⟨rfl, rfl, 30, rsplit_ev x hok⟩
 ·cases hv
end Go.Proofs.YthopphfehgdocaaGreatDoor
