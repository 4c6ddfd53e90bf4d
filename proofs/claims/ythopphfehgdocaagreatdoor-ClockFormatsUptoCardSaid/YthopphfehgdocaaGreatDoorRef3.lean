import Derived.Test.YthopphfehgdocaaGreatDoorRefQ
import Derived.Test.YthopphfehgdocaaGreatDoorGen9
set_option linter.unusedSimpArgs false
set_option linter.unusedVariables false
namespace Go.Proofs.YthopphfehgdocaaGreatDoor
open Go Go.RowKit Go.Ev Go.Proofs Go.Shelf
theorem afn_some {e : AFn} {args : Array Value} {v : Value} (h : e.pfn.p args = some v) : e.val args = some v ∧ e.ok args = true := by
 unfold AFn.pfn at h
 simp only at h
 split at h
 ·cases h
 ·rename_i u hu
  split at h
  ·rename_i hok; cases h; exact ⟨hu, hok⟩
  ·cases h
theorem args_list {a : Array Value} {l : List Value} (h : a.toList = l) : a = l.toArray := by subst h; simp
theorem startW {w : World} {a : Addr} (k : Known w a) (la : List AFn) (lp : List PFn) : Go.Ev.Start (withFns cx0 la lp) H0 (E0 a) w :=
 have s := start k (tabI (la.map AFn.pfn ++ lp))
 ⟨s.dat, s.low, s.globs⟩
theorem psound_startW {la : List AFn} {lp : List PFn} (ha : ∀ e ∈ la, PSound cx0 e.pfn) (hp : ∀ e ∈ lp, PSound cx0 e) {e : PFn}
  (hg : ∀ args v, e.p args = some v → args.toList.all (closed 60) = true ∧ shut v = true ∧ ∃ n H' nx', evFunc (withFns cx0 la lp) n e.f args H0 12 = some (v, H', nx')) : PSound cx0 e := fun i =>
 pureI_sound fun args args' v B w E hW hB har hp' => by
  obtain ⟨hcl, hv, n, H', nx', h⟩ := hg args v hp'
  obtain ⟨h11, a, hab, hk⟩ := hW
  have he : args' = args := by
   refine Array.ext har.1.symm fun k h1 h2 => ?_
   have p : args[k]? = some args[k] := Array.getElem?_eq_getElem h2
   have q : args'[k]? = some args'[k] := Array.getElem?_eq_getElem h1
   exact (har.2 k _ _ p q).shut_eq 60 (closed_all hcl k _ p)
  subst he
  refine (ev_start (cx := withFns cx0 la lp) (CxOk.withFns cx_ok la lp) (withFns_intr ha hp) w (startW hk la lp) ⟨by omega, a, by omega, hk⟩ (AR.closed _ hcl) h hv).mono ?_
  rintro e w' ⟨rfl, hb⟩
  exact ⟨rfl, hv, hb⟩
theorem asound_nil : ∀ e ∈ ([] : List AFn), PSound cx0 e.pfn := fun e h => by cases h
theorem asound_cons {e : AFn} {l : List AFn} (h : PSound cx0 e.pfn) (k : ∀ e ∈ l, PSound cx0 e.pfn) : ∀ e' ∈ e :: l, PSound cx0 e'.pfn := fun e' he => by
 rcases List.mem_cons.1 he with rfl | he
 ·exact h
 ·exact k e' he
theorem psound_tr {la : List AFn} {lp : List PFn} (ha : ∀ e ∈ la, PSound cx0 e.pfn) (hp : ∀ e ∈ lp, PSound cx0 e) {e : PFn}
  (hg : ∀ args v, e.p args = some v → args.toList.all (closed 60) = true ∧ shut v = true ∧ ∃ fn c, cx0.body e.f = some fn ∧ fn.body = some c ∧
   Tr (withFns cx0 la lp) 12 (max args.size fn.ntmps) c (entry fn args H0 12) fun x s => (match x with | .exit _ => False | _ => True) ∧ ∃ l, evResults (withFns cx0 la lp) s.tm s.H fn.results.toList = some l ∧ oneOf l = v) : PSound cx0 e := fun i =>
 pureI_sound fun args args' v B w E hW hB har hp' => by
  obtain ⟨hcl, hv, fn, c, hb, hbd, h⟩ := hg args v hp'
  obtain ⟨h11, a, hab, hk⟩ := hW
  have he : args' = args := by
   refine Array.ext har.1.symm fun k h1 h2 => ?_
   have p : args[k]? = some args[k] := Array.getElem?_eq_getElem h2
   have q : args'[k]? = some args'[k] := Array.getElem?_eq_getElem h1
   exact (har.2 k _ _ p q).shut_eq 60 (closed_all hcl k _ p)
  subst he
  have s := startW hk la lp
  have hW2 : (withFns cx0 la lp).Wp w.heap.size w := ⟨by omega, a, by omega, hk⟩
  refine (Tr.calls (cx := withFns cx0 la lp) (R := fun u _ _ => u = v) (CxOk.withFns cx_ok la lp) hb hbd hW2 s.hr s.fresh s.globs (AR.closed _ hcl) h).mono ?_
  rintro e w' ⟨u, v', H', nx', E', rfl, rfl, vr, _, _, _, hbl⟩
  have := vr.shut_eq 60 (by simpa [shut] using hv)
  subst this
  exact ⟨rfl, hv, hbl⟩
def itoaF (n : Int) : ByteArray := ⟨(Lib.itoa n).toArray⟩
def i64F (n : Int) : Bool := decide (-9223372036854775808 ≤ n) && decide (n ≤ 9223372036854775807)
def itoaV (args : Array Value) : Option Value := match args.toList with
 | [.int .i64 n] => some (.string (itoaF n))
 | _ => none
def itoaK (args : Array Value) : Bool := match args.toList with
 | [.int .i64 n] => (i64F n == true)
 | _ => false
def itoaA : AFn := { f := 94, val := itoaV, ok := itoaK }
theorem itoa_sound : PSound cx0 itoaA.pfn := fun i => pureI_sound fun args args' v B w E hW hB har h => by
 obtain ⟨hv, hk⟩ := afn_some h
 replace hv : itoaV args = some v := hv
 replace hk : itoaK args = true := hk
 unfold itoaV at hv
 split at hv
 ·rename_i n hx
  have ha := args_list hx
  subst ha
  cases hv
  have hn : i64F n = true := by simpa [itoaK] using hk
  unfold i64F at hn
  simp only [Bool.and_eq_true, decide_eq_true_eq] at hn
  obtain ⟨h11, a, hab, hkn⟩ := hW
  have he : args' = #[.int .i64 n] := by
   refine Array.ext har.1.symm fun k h1 h2 => ?_
   have p : (#[Value.int .i64 n])[k]? = some (#[Value.int .i64 n])[k] := Array.getElem?_eq_getElem h2
   have q : args'[k]? = some args'[k] := Array.getElem?_eq_getElem h1
   refine (har.2 k _ _ p q).shut_eq 60 (closed_all (a := #[Value.int .i64 n]) rfl k _ p)
  subst he
  refine (Tryz.strconv_Itoa n hn.1 hn.2 w hkn.tab).mono ?_
  rintro e w' ⟨rfl, k, os, rfl⟩
  exact ⟨rfl, rfl, ⟨rfl, rfl, rfl, by simp [Go.Sort.grow], fun i hi => by
   show ((w.drewN k).heap ++ os)[i]? = _
   rw [Array.getElem?_append_left (by show i < w.heap.size; omega)]
   rfl⟩⟩
 ·cases hv
def cth (n : Int) : Int := IntKind.i64.wrap ((IntKind.i64.wrap (n - (Int.tmod (IntKind.i64.wrap ((wdF n) + 6)) 7))) + 3)
theorem cday_p0 (y m d : Int) (H : Hp) (nx : Nat) (h1 : ((decide (y < ((-9999 : Int)))) == false) = true) (h2 : ((decide (y > 9999)) == false) = true) (h3 : ((decide (d < 1)) == false) = true) (h4 : ((decide (d > (lenF y m))) == false) = true) (h5 : ((numOkF y m d) == true) = true) : evFunc (withFns cx0 laD lpD) 30 77 #[.int .i64 y, .int .i64 m, .int .i64 d] H nx = some ((Value.tuple #[(Value.int IntKind.i64 (numdF y m d)), (Value.int IntKind.i64 0)]), H, nx + 25) :=
 orc_sel_run ((hkW laD lpD)) (m := [true, true, true, true, true, true, true, true, true, true, true, true, true, true]) (l := [((decide (y < ((-9999 : Int)))) == false), ((decide (y < ((-9999 : Int)))) == false), ((decide (y < ((-9999 : Int)))) == false), ((decide (y > 9999)) == false), ((decide (y > 9999)) == false), ((decide (y > 9999)) == false), ((decide (d < 1)) == false), ((decide (d < 1)) == false), ((decide (d < 1)) == false), ((decide (d < 1)) == false), ((decide (d < 1)) == false), ((decide (d < 1)) == false), ((decide (d > (lenF y m))) == false), ((numOkF y m d) == true)]) (p := [false, false, false, false, false, false, false, false, false, false, false, false, false]) (by kernel_rfl) (by kernel_rfl) (by kernel_rfl) (C3 h1 (C3 h2 (C6 h3 (aC h4 (aC h5 aN)))))
theorem cday_p1 (y m d : Int) (H : Hp) (nx : Nat) (h1 : ((decide (y < ((-9999 : Int)))) == true) = true) : evFunc (withFns cx0 laD lpD) 30 77 #[.int .i64 y, .int .i64 m, .int .i64 d] H nx = some ((Value.tuple #[(Value.int IntKind.i64 0), (Value.int IntKind.i64 110)]), H, nx + 12) :=
 orc_sel_run ((hkW laD lpD)) (m := [true, true, true]) (l := [((decide (y < ((-9999 : Int)))) == true), ((decide (y < ((-9999 : Int)))) == true), ((decide (y < ((-9999 : Int)))) == true)]) (p := [true, true, true, true, true, true, true, true, true, true, true, true, true]) (by kernel_rfl) (by kernel_rfl) (by kernel_rfl) (C3 h1 aN)
theorem cday_p2 (y m d : Int) (H : Hp) (nx : Nat) (h1 : ((decide (y < ((-9999 : Int)))) == false) = true) (h2 : ((decide (y > 9999)) == true) = true) : evFunc (withFns cx0 laD lpD) 30 77 #[.int .i64 y, .int .i64 m, .int .i64 d] H nx = some ((Value.tuple #[(Value.int IntKind.i64 0), (Value.int IntKind.i64 110)]), H, nx + 14) :=
 orc_sel_run ((hkW laD lpD)) (m := [true, true, true, true, true, true]) (l := [((decide (y < ((-9999 : Int)))) == false), ((decide (y < ((-9999 : Int)))) == false), ((decide (y < ((-9999 : Int)))) == false), ((decide (y > 9999)) == true), ((decide (y > 9999)) == true), ((decide (y > 9999)) == true)]) (p := [false, false, false, true, true, true, true, true, true, true, true, true, true]) (by kernel_rfl) (by kernel_rfl) (by kernel_rfl) (C3 h1 (C3 h2 aN))
theorem cday_p3 (y m d : Int) (H : Hp) (nx : Nat) (h1 : ((decide (y < ((-9999 : Int)))) == false) = true) (h2 : ((decide (y > 9999)) == false) = true) (h3 : ((decide (d < 1)) == true) = true) : evFunc (withFns cx0 laD lpD) 30 77 #[.int .i64 y, .int .i64 m, .int .i64 d] H nx = some ((Value.tuple #[(Value.int IntKind.i64 0), (Value.int IntKind.i64 110)]), H, nx + 16) :=
 orc_sel_run ((hkW laD lpD)) (m := [true, true, true, true, true, true, true, true, true, true, true, true]) (l := [((decide (y < ((-9999 : Int)))) == false), ((decide (y < ((-9999 : Int)))) == false), ((decide (y < ((-9999 : Int)))) == false), ((decide (y > 9999)) == false), ((decide (y > 9999)) == false), ((decide (y > 9999)) == false), ((decide (d < 1)) == true), ((decide (d < 1)) == true), ((decide (d < 1)) == true), ((decide (d < 1)) == true), ((decide (d < 1)) == true), ((decide (d < 1)) == true)]) (p := [false, false, false, false, false, false, true, true, true, true, true, true, true]) (by kernel_rfl) (by kernel_rfl) (by kernel_rfl) (C3 h1 (C3 h2 (C6 h3 aN)))
theorem cday_p4 (y m d : Int) (H : Hp) (nx : Nat) (h1 : ((decide (y < ((-9999 : Int)))) == false) = true) (h2 : ((decide (y > 9999)) == false) = true) (h3 : ((decide (d < 1)) == false) = true) (h4 : ((decide (d > (lenF y m))) == true) = true) : evFunc (withFns cx0 laD lpD) 30 77 #[.int .i64 y, .int .i64 m, .int .i64 d] H nx = some ((Value.tuple #[(Value.int IntKind.i64 0), (Value.int IntKind.i64 110)]), H, nx + 21) :=
 orc_sel_run ((hkW laD lpD)) (m := [true, true, true, true, true, true, true, true, true, true, true, true, true]) (l := [((decide (y < ((-9999 : Int)))) == false), ((decide (y < ((-9999 : Int)))) == false), ((decide (y < ((-9999 : Int)))) == false), ((decide (y > 9999)) == false), ((decide (y > 9999)) == false), ((decide (y > 9999)) == false), ((decide (d < 1)) == false), ((decide (d < 1)) == false), ((decide (d < 1)) == false), ((decide (d < 1)) == false), ((decide (d < 1)) == false), ((decide (d < 1)) == false), ((decide (d > (lenF y m))) == true)]) (p := [false, false, false, false, false, false, false, false, false, false, false, false, true]) (by kernel_rfl) (by kernel_rfl) (by kernel_rfl) (C3 h1 (C3 h2 (C6 h3 (aC h4 aN))))
def cday0F (y m d : Int) : Int := (bif (decide (y < ((-9999 : Int)))) then 0 else (bif (decide (y > 9999)) then 0 else (bif (decide (d < 1)) then 0 else (bif (decide (d > (lenF y m))) then 0 else (numdF y m d)))))
def cday1F (y m d : Int) : Int := (bif (decide (y < ((-9999 : Int)))) then 110 else (bif (decide (y > 9999)) then 110 else (bif (decide (d < 1)) then 110 else (bif (decide (d > (lenF y m))) then 110 else 0))))
def cdayOkF (y m d : Int) : Bool := (bif (decide (y < ((-9999 : Int)))) then true else (bif (decide (y > 9999)) then true else (bif (decide (d < 1)) then true else (bif (decide (d > (lenF y m))) then true else (((numOkF y m d)) && true)))))
theorem cday_ev (y m d : Int) (H : Hp) (nx : Nat) (hok : cdayOkF y m d = true) : ∃ k, evFunc (withFns cx0 laD lpD) 30 77 #[.int .i64 y, .int .i64 m, .int .i64 d] H nx = some ((Value.tuple #[(Value.int IntKind.i64 (cday0F y m d)), (Value.int IntKind.i64 (cday1F y m d))]), H, k) := by
 unfold cdayOkF at hok
 cases c0_ : ((decide (y < ((-9999 : Int))))) with
 | true =>
  unfold cday0F cday1F
  simp only [c0_, cond_true, cond_false]
  exact ⟨_, cday_p1 y m d H nx (by rw [c0_]; rfl)⟩
 | false =>
  cases c1_ : ((decide (y > 9999))) with
  | true =>
   unfold cday0F cday1F
   simp only [c0_, c1_, cond_true, cond_false]
   exact ⟨_, cday_p2 y m d H nx (by rw [c0_]; rfl) (by rw [c1_]; rfl)⟩
  | false =>
   cases c2_ : ((decide (d < 1))) with
   | true =>
    unfold cday0F cday1F
    simp only [c0_, c1_, c2_, cond_true, cond_false]
    exact ⟨_, cday_p3 y m d H nx (by rw [c0_]; rfl) (by rw [c1_]; rfl) (by rw [c2_]; rfl)⟩
   | false =>
    cases c3_ : ((decide (d > (lenF y m)))) with
    | true =>
     unfold cday0F cday1F
     simp only [c0_, c1_, c2_, c3_, cond_true, cond_false]
     exact ⟨_, cday_p4 y m d H nx (by rw [c0_]; rfl) (by rw [c1_]; rfl) (by rw [c2_]; rfl) (by rw [c3_]; rfl)⟩
    | false =>
     have c4_ : ((numOkF y m d)) = true := by
      simp only [c0_, c1_, c2_, c3_, Bool.and_eq_true, Bool.not_eq_true', cond_true, cond_false] at hok
      exact hok.1
     replace hok := by
      simp only [c0_, c1_, c2_, c3_, c4_, Bool.not_true, Bool.not_false, Bool.true_and, cond_true, cond_false] at hok
      exact hok
     unfold cday0F cday1F
     simp only [c0_, c1_, c2_, c3_, c4_, cond_true, cond_false]
     exact ⟨_, cday_p0 y m d H nx (by rw [c0_]; rfl) (by rw [c1_]; rfl) (by rw [c2_]; rfl) (by rw [c3_]; rfl) (by rw [c4_]; rfl)⟩
def cdayV (args : Array Value) : Option Value := match args.toList with
 | [.int .i64 y, .int .i64 m, .int .i64 d] => some (Value.tuple #[(Value.int IntKind.i64 (cday0F y m d)), (Value.int IntKind.i64 (cday1F y m d))])
 | _ => none
def cdayK (args : Array Value) : Bool := match args.toList with
 | [.int .i64 y, .int .i64 m, .int .i64 d] => (cdayOkF y m d == true)
 | _ => false
def cdayA : AFn := { f := 77, val := cdayV, ok := cdayK }
theorem cday_sound : PSound cx0 cdayA.pfn := psound_of_evW cx_ok laD_sound lpD_sound fun args v h H nx => by
 obtain ⟨hv, hk⟩ := afn_some h
 replace hv : cdayV args = some v := hv
 replace hk : cdayK args = true := hk
 unfold cdayV at hv
 split at hv
 ·rename_i y m d hx
  have ha := args_list hx
  subst ha
  cases hv
  have hok : cdayOkF y m d = true := by simpa [cdayK] using hk
  obtain ⟨k, e⟩ := cday_ev y m d H nx hok
  exact ⟨30, k, e⟩
 ·cases hv
theorem cwks_p0 (n : Int) (H : Hp) (nx : Nat) (h1 : (((reF n) != 0) == false) = true) (h2 : ((numOkF (ryF n) 0 1) == true) = true) (h3 : ((decide ((cth n) < (numdF (ryF n) 0 1))) == false) = true) (h4 : ((numOkF (IntKind.i64.wrap ((ryF n) + 1)) 0 1) == true) = true) (h5 : ((decide ((cth n) ≥ (numdF (IntKind.i64.wrap ((ryF n) + 1)) 0 1))) == false) = true) : evFunc (withFns cx0 laD lpD) 30 78 #[.int .i64 n] H nx = some ((Value.tuple #[(Value.int IntKind.i64 (ryF n)), (Value.int IntKind.i64 (IntKind.i64.wrap ((IntKind.i64.wrap (Int.tdiv (IntKind.i64.wrap ((cth n) - (numdF (ryF n) 0 1))) 7)) + 1))), (Value.int IntKind.i64 (IntKind.i64.wrap (Int.tdiv (IntKind.i64.wrap ((IntKind.i64.wrap ((IntKind.i64.wrap (n - (numdF (ryF n) 0 1))) + 7)) - (wdF n))) 7))), (Value.int IntKind.i64 (IntKind.i64.wrap (Int.tdiv (IntKind.i64.wrap ((IntKind.i64.wrap ((IntKind.i64.wrap (n - (numdF (ryF n) 0 1))) + 7)) - (Int.tmod (IntKind.i64.wrap ((wdF n) + 6)) 7))) 7))), (Value.int IntKind.i64 0)]), H, nx + 69) :=
 orc_sel_run ((hkW laD lpD)) (m := [true, false, true, true, true, true, true, true]) (l := [(((reF n) != 0) == false), ((numOkF (ryF n) 0 1) == true), ((numOkF (ryF n) 0 1) == true), ((decide ((cth n) < (numdF (ryF n) 0 1))) == false), ((numOkF (IntKind.i64.wrap ((ryF n) + 1)) 0 1) == true), ((decide ((cth n) ≥ (numdF (IntKind.i64.wrap ((ryF n) + 1)) 0 1))) == false), ((numOkF (ryF n) 0 1) == true)]) (p := [false, false, false]) (by kernel_rfl) (by kernel_rfl) (by kernel_rfl) (aC h1 (C2 h2 (aC h3 (aC h4 (aC h5 (aC h2 aN))))))
theorem cwks_p1 (n : Int) (H : Hp) (nx : Nat) (h1 : (((reF n) != 0) == true) = true) : evFunc (withFns cx0 laD lpD) 30 78 #[.int .i64 n] H nx = some ((Value.tuple #[(Value.int IntKind.i64 0), (Value.int IntKind.i64 0), (Value.int IntKind.i64 0), (Value.int IntKind.i64 0), (Value.int IntKind.i64 (reF n))]), H, nx + 24) :=
 orc_sel_run ((hkW laD lpD)) (m := [true]) (l := [(((reF n) != 0) == true)]) (p := [true]) (by kernel_rfl) (by kernel_rfl) (by kernel_rfl) (aC h1 aN)
theorem cwks_p2 (n : Int) (H : Hp) (nx : Nat) (h1 : (((reF n) != 0) == false) = true) (h2 : ((numOkF (ryF n) 0 1) == true) = true) (h3 : ((decide ((cth n) < (numdF (ryF n) 0 1))) == false) = true) (h4 : ((numOkF (IntKind.i64.wrap ((ryF n) + 1)) 0 1) == true) = true) (h5 : ((decide ((cth n) ≥ (numdF (IntKind.i64.wrap ((ryF n) + 1)) 0 1))) == true) = true) : evFunc (withFns cx0 laD lpD) 30 78 #[.int .i64 n] H nx = some ((Value.tuple #[(Value.int IntKind.i64 (IntKind.i64.wrap ((ryF n) + 1))), (Value.int IntKind.i64 (IntKind.i64.wrap ((IntKind.i64.wrap (Int.tdiv (IntKind.i64.wrap ((cth n) - (numdF (IntKind.i64.wrap ((ryF n) + 1)) 0 1))) 7)) + 1))), (Value.int IntKind.i64 (IntKind.i64.wrap (Int.tdiv (IntKind.i64.wrap ((IntKind.i64.wrap ((IntKind.i64.wrap (n - (numdF (ryF n) 0 1))) + 7)) - (wdF n))) 7))), (Value.int IntKind.i64 (IntKind.i64.wrap (Int.tdiv (IntKind.i64.wrap ((IntKind.i64.wrap ((IntKind.i64.wrap (n - (numdF (ryF n) 0 1))) + 7)) - (Int.tmod (IntKind.i64.wrap ((wdF n) + 6)) 7))) 7))), (Value.int IntKind.i64 0)]), H, nx + 72) :=
 orc_sel_run ((hkW laD lpD)) (m := [true, false, true, true, true, true, true, true]) (l := [(((reF n) != 0) == false), ((numOkF (ryF n) 0 1) == true), ((numOkF (ryF n) 0 1) == true), ((decide ((cth n) < (numdF (ryF n) 0 1))) == false), ((numOkF (IntKind.i64.wrap ((ryF n) + 1)) 0 1) == true), ((decide ((cth n) ≥ (numdF (IntKind.i64.wrap ((ryF n) + 1)) 0 1))) == true), ((numOkF (IntKind.i64.wrap ((ryF n) + 1)) 0 1) == true)]) (p := [false, false, true]) (by kernel_rfl) (by kernel_rfl) (by kernel_rfl) (aC h1 (C2 h2 (aC h3 (aC h4 (aC h5 (aC h4 aN))))))
theorem cwks_p3 (n : Int) (H : Hp) (nx : Nat) (h1 : (((reF n) != 0) == false) = true) (h2 : ((numOkF (ryF n) 0 1) == true) = true) (h3 : ((decide ((cth n) < (numdF (ryF n) 0 1))) == true) = true) (h4 : ((numOkF (IntKind.i64.wrap ((ryF n) - 1)) 0 1) == true) = true) : evFunc (withFns cx0 laD lpD) 30 78 #[.int .i64 n] H nx = some ((Value.tuple #[(Value.int IntKind.i64 (IntKind.i64.wrap ((ryF n) - 1))), (Value.int IntKind.i64 (IntKind.i64.wrap ((IntKind.i64.wrap (Int.tdiv (IntKind.i64.wrap ((cth n) - (numdF (IntKind.i64.wrap ((ryF n) - 1)) 0 1))) 7)) + 1))), (Value.int IntKind.i64 (IntKind.i64.wrap (Int.tdiv (IntKind.i64.wrap ((IntKind.i64.wrap ((IntKind.i64.wrap (n - (numdF (ryF n) 0 1))) + 7)) - (wdF n))) 7))), (Value.int IntKind.i64 (IntKind.i64.wrap (Int.tdiv (IntKind.i64.wrap ((IntKind.i64.wrap ((IntKind.i64.wrap (n - (numdF (ryF n) 0 1))) + 7)) - (Int.tmod (IntKind.i64.wrap ((wdF n) + 6)) 7))) 7))), (Value.int IntKind.i64 0)]), H, nx + 66) :=
 orc_sel_run ((hkW laD lpD)) (m := [true, false, true, true, true, true]) (l := [(((reF n) != 0) == false), ((numOkF (ryF n) 0 1) == true), ((numOkF (ryF n) 0 1) == true), ((decide ((cth n) < (numdF (ryF n) 0 1))) == true), ((numOkF (IntKind.i64.wrap ((ryF n) - 1)) 0 1) == true)]) (p := [false, true]) (by kernel_rfl) (by kernel_rfl) (by kernel_rfl) (aC h1 (C2 h2 (aC h3 (aC h4 aN))))
def cwks0F (n : Int) : Int := (bif ((reF n) != 0) then 0 else (bif (decide ((cth n) < (numdF (ryF n) 0 1))) then (IntKind.i64.wrap ((ryF n) - 1)) else (bif (decide ((cth n) ≥ (numdF (IntKind.i64.wrap ((ryF n) + 1)) 0 1))) then (IntKind.i64.wrap ((ryF n) + 1)) else (ryF n))))
def cwks1F (n : Int) : Int := (bif ((reF n) != 0) then 0 else (bif (decide ((cth n) < (numdF (ryF n) 0 1))) then (IntKind.i64.wrap ((IntKind.i64.wrap (Int.tdiv (IntKind.i64.wrap ((cth n) - (numdF (IntKind.i64.wrap ((ryF n) - 1)) 0 1))) 7)) + 1)) else (bif (decide ((cth n) ≥ (numdF (IntKind.i64.wrap ((ryF n) + 1)) 0 1))) then (IntKind.i64.wrap ((IntKind.i64.wrap (Int.tdiv (IntKind.i64.wrap ((cth n) - (numdF (IntKind.i64.wrap ((ryF n) + 1)) 0 1))) 7)) + 1)) else (IntKind.i64.wrap ((IntKind.i64.wrap (Int.tdiv (IntKind.i64.wrap ((cth n) - (numdF (ryF n) 0 1))) 7)) + 1)))))
def cwks2F (n : Int) : Int := (bif ((reF n) != 0) then 0 else (IntKind.i64.wrap (Int.tdiv (IntKind.i64.wrap ((IntKind.i64.wrap ((IntKind.i64.wrap (n - (numdF (ryF n) 0 1))) + 7)) - (wdF n))) 7)))
def cwks3F (n : Int) : Int := (bif ((reF n) != 0) then 0 else (IntKind.i64.wrap (Int.tdiv (IntKind.i64.wrap ((IntKind.i64.wrap ((IntKind.i64.wrap (n - (numdF (ryF n) 0 1))) + 7)) - (Int.tmod (IntKind.i64.wrap ((wdF n) + 6)) 7))) 7)))
def cwks4F (n : Int) : Int := (bif ((reF n) != 0) then (reF n) else 0)
def cwksOkF (n : Int) : Bool := (bif ((reF n) != 0) then true else (((numOkF (ryF n) 0 1)) && (bif (decide ((cth n) < (numdF (ryF n) 0 1))) then (((numOkF (IntKind.i64.wrap ((ryF n) - 1)) 0 1)) && true) else (((numOkF (IntKind.i64.wrap ((ryF n) + 1)) 0 1)) && true))))
theorem cwks_ev (n : Int) (H : Hp) (nx : Nat) (hok : cwksOkF n = true) : ∃ k, evFunc (withFns cx0 laD lpD) 30 78 #[.int .i64 n] H nx = some ((Value.tuple #[(Value.int IntKind.i64 (cwks0F n)), (Value.int IntKind.i64 (cwks1F n)), (Value.int IntKind.i64 (cwks2F n)), (Value.int IntKind.i64 (cwks3F n)), (Value.int IntKind.i64 (cwks4F n))]), H, k) := by
 unfold cwksOkF at hok
 cases c0_ : (((reF n) != 0)) with
 | true =>
  unfold cwks0F cwks1F cwks2F cwks3F cwks4F
  simp only [c0_, cond_true, cond_false]
  exact ⟨_, cwks_p1 n H nx (by rw [c0_]; rfl)⟩
 | false =>
  have c1_ : ((numOkF (ryF n) 0 1)) = true := by
   simp only [c0_, Bool.and_eq_true, Bool.not_eq_true', cond_true, cond_false] at hok
   exact hok.1
  replace hok := by
   simp only [c0_, c1_, Bool.not_true, Bool.not_false, Bool.true_and, cond_true, cond_false] at hok
   exact hok
  cases c2_ : ((decide ((cth n) < (numdF (ryF n) 0 1)))) with
  | true =>
   have c3_ : ((numOkF (IntKind.i64.wrap ((ryF n) - 1)) 0 1)) = true := by
    simp only [c0_, c1_, c2_, Bool.and_eq_true, Bool.not_eq_true', cond_true, cond_false] at hok
    exact hok.1
   replace hok := by
    simp only [c0_, c1_, c2_, c3_, Bool.not_true, Bool.not_false, Bool.true_and, cond_true, cond_false] at hok
    exact hok
   unfold cwks0F cwks1F cwks2F cwks3F cwks4F
   simp only [c0_, c1_, c2_, c3_, cond_true, cond_false]
   exact ⟨_, cwks_p3 n H nx (by rw [c0_]; rfl) (by rw [c1_]; rfl) (by rw [c2_]; rfl) (by rw [c3_]; rfl)⟩
  | false =>
   have c3_ : ((numOkF (IntKind.i64.wrap ((ryF n) + 1)) 0 1)) = true := by
    simp only [c0_, c1_, c2_, Bool.and_eq_true, Bool.not_eq_true', cond_true, cond_false] at hok
    exact hok.1
   replace hok := by
    simp only [c0_, c1_, c2_, c3_, Bool.not_true, Bool.not_false, Bool.true_and, cond_true, cond_false] at hok
    exact hok
   cases c4_ : ((decide ((cth n) ≥ (numdF (IntKind.i64.wrap ((ryF n) + 1)) 0 1)))) with
   | true =>
    unfold cwks0F cwks1F cwks2F cwks3F cwks4F
    simp only [c0_, c1_, c2_, c3_, c4_, cond_true, cond_false]
    exact ⟨_, cwks_p2 n H nx (by rw [c0_]; rfl) (by rw [c1_]; rfl) (by rw [c2_]; rfl) (by rw [c3_]; rfl) (by rw [c4_]; rfl)⟩
   | false =>
    unfold cwks0F cwks1F cwks2F cwks3F cwks4F
    simp only [c0_, c1_, c2_, c3_, c4_, cond_true, cond_false]
    exact ⟨_, cwks_p0 n H nx (by rw [c0_]; rfl) (by rw [c1_]; rfl) (by rw [c2_]; rfl) (by rw [c3_]; rfl) (by rw [c4_]; rfl)⟩
def cwksV (args : Array Value) : Option Value := match args.toList with
 | [.int .i64 n] => some (Value.tuple #[(Value.int IntKind.i64 (cwks0F n)), (Value.int IntKind.i64 (cwks1F n)), (Value.int IntKind.i64 (cwks2F n)), (Value.int IntKind.i64 (cwks3F n)), (Value.int IntKind.i64 (cwks4F n))])
 | _ => none
def cwksK (args : Array Value) : Bool := match args.toList with
 | [.int .i64 n] => (cwksOkF n == true)
 | _ => false
def cwksA : AFn := { f := 78, val := cwksV, ok := cwksK }
theorem cwks_sound : PSound cx0 cwksA.pfn := psound_of_evW cx_ok laD_sound lpD_sound fun args v h H nx => by
 obtain ⟨hv, hk⟩ := afn_some h
 replace hv : cwksV args = some v := hv
 replace hk : cwksK args = true := hk
 unfold cwksV at hv
 split at hv
 ·rename_i n hx
  have ha := args_list hx
  subst ha
  cases hv
  have hok : cwksOkF n = true := by simpa [cwksK] using hk
  obtain ⟨k, e⟩ := cwks_ev n H nx hok
  exact ⟨30, k, e⟩
 ·cases hv
def beginOkF (y m : Int) : Bool := decide (-100000 ≤ y) && (decide (y ≤ 100000) && (decide (0 ≤ m) && decide (m ≤ 11)))
def beginK2 (args : Array Value) : Bool := match args.toList with
 | [.int .i64 y, .int .i64 m] => beginOkF y m == true
 | _ => false
theorem beginK2_eq : beginK2 = beginK := by
 funext a
 unfold beginK2 beginK beginOkF
 split
 ·rename_i h; simp [h]
 ·split
  ·rename_i h1 _ _ _ h2; exact absurd h2 (h1 _ _)
  ·rfl
def beginA2 : AFn := { f := 66, val := beginV, ok := beginK2 }
theorem begin2_sound : PSound cx0 beginA2.pfn := by
 have e : beginA2 = beginA := by unfold beginA2 beginA; rw [beginK2_eq]
 rw [e]; exact begin_sound
def laE : List AFn := [numberA2, beginA2, cdayA, cwksA]
def lpE : List PFn := [clenE, cleapE, cdateE, weekdayE, divE, lenE, rdateE, floorE, wdayE]
theorem laE_sound : ∀ e ∈ laE, PSound cx0 e.pfn := asound_cons number2_sound (asound_cons begin2_sound (asound_cons cday_sound (asound_cons cwks_sound asound_nil)))
theorem lpE_sound : ∀ e ∈ lpE, PSound cx0 e := psound_cons clen_sound (psound_cons cleap_sound (psound_cons cdate_sound (psound_cons weekday_sound (psound_cons div_sound (psound_cons len_sound (psound_cons rdate_sound (psound_cons floor_sound (psound_cons wday_sound psound_nil))))))))
end Go.Proofs.YthopphfehgdocaaGreatDoor
