import Derived.Test.YthopphfehgdocaaGreatDoorOrd2
import Derived.Test.YthopphfehgdocaaGreatDoorStart
namespace Go.Proofs.YthopphfehgdocaaGreatDoor
open Go Go.RowKit Go.Ev Go.Proofs Go.Shelf
set_option linter.unusedSimpArgs false
set_option linter.unusedVariables false
/-! ### The contracts of clock.Format at the ISO format, and of heads -/
def isoSF (Y M D ho mi s : Int) : ByteArray := ⟨(isoL Y M D ho mi s).toArray⟩
def isoKF (Y M D ho mi : Int) (S : Nat) : Bool := isTF Y M D ho mi S && it4F Y
def isoV (args : Array Value) : Option Value := match args.toList with
  | [.agg a, .string f] => match a.toList with
    | [.int .i64 Y, .int .i64 M, .int .i64 D, .int .i64 ho, .int .i64 mi, .float .f64 S, .int .i64 W, .int .i64 J] => if f.data.toList = isoB.data.toList then some (.tuple #[.string ⟨#[dgF (Y / 1000), dgF (Y / 100 % 10), dgF (Y / 10 % 10), dgF (Y % 10), 45, dgF ((M + 1) / 10), dgF ((M + 1) % 10), 45, dgF (D / 10), dgF (D % 10), 84, dgF (ho / 10), dgF (ho % 10), 58, dgF (mi / 10), dgF (mi % 10), 58, dgF (f2i .f64 S / 10), dgF (f2i .f64 S % 10), 90]⟩, .int .i64 0]) else none
    | _ => none
  | _ => none
def isoK (args : Array Value) : Bool := match args.toList with
  | [.agg a, .string f] => match a.toList with
    | [.int .i64 Y, .int .i64 M, .int .i64 D, .int .i64 ho, .int .i64 mi, .float .f64 S, .int .i64 W, .int .i64 J] => isoKF Y M D ho mi S == true
    | _ => false
  | _ => false
def isoA : AFn := { f := 9, val := isoV, ok := isoK }
theorem iso_ev (Y M D ho mi : Int) (S : Nat) (W J : Int) (h : isoKF Y M D ho mi S = true) : ∃ H' nx', evFunc (withB laO []) 120 9 #[.agg #[.int .i64 Y, .int .i64 M, .int .i64 D, .int .i64 ho, .int .i64 mi, .float .f64 S, .int .i64 W, .int .i64 J], .string isoB] H0 12 = some (.tuple #[.string ⟨#[dgF (Y / 1000), dgF (Y / 100 % 10), dgF (Y / 10 % 10), dgF (Y % 10), 45, dgF ((M + 1) / 10), dgF ((M + 1) % 10), 45, dgF (D / 10), dgF (D % 10), 84, dgF (ho / 10), dgF (ho % 10), 58, dgF (mi / 10), dgF (mi % 10), 58, dgF (f2i .f64 S / 10), dgF (f2i .f64 S % 10), 90]⟩, .int .i64 0], H', nx') := by
  unfold isoKF at h
  simp only [Bool.and_eq_true] at h
  obtain ⟨h1, h2⟩ := h
  obtain ⟨n, hn, n1, n2, hY, hM, hD, ho', hmi, hS, hs⟩ := isT_spec h1
  have r := Clk.date_ranges (n / 86400)
  have w1 : IntKind.i64.wrap (M + 1) = M + 1 := wrap_id _ (by omega) (by omega)
  have hb : (n % 60).natAbs < 2 ^ 53 := by omega
  have f1 : froundOk S = true := by rw [hS]; exact Clk.froundOk_fo _ hb
  have f2 : fround .down S = S := by rw [hS]; exact Clk.fround_fo _ hb
  have f3 : f2iOk .f64 S .i64 = true := by rw [hS]; exact Clk.f2iOk_fo _ hb
  have tw : ∀ k : Int, 0 ≤ k → k ≤ 99 → tw2F k = true := fun k a b => by
    unfold tw2F
    simp only [Bool.and_eq_true, decide_eq_true_eq]
    exact ⟨a, b⟩
  obtain ⟨H', nx', e⟩ := iso_run Y M D ho mi S W J (by rw [h1]; rfl) (by rw [h2]; rfl) (by rw [w1, tw _ (by omega) (by omega)]; rfl) (by rw [tw _ (by omega) (by omega)]; rfl) (by rw [tw _ (by omega) (by omega)]; rfl) (by rw [tw _ (by omega) (by omega)]; rfl) f1 (by rw [f2]; exact f3) (by rw [f2, hs, tw _ (by omega) (by omega)]; rfl)
  refine ⟨H', nx', ?_⟩
  rw [e, f2, w1]
  simp only [by8_eq]
theorem iso_sound : PSound cx0 isoA.pfn := psound_startB laO_sound psound_nil fun args v h => by
  obtain ⟨hv, hk⟩ := afn_some h
  replace hv : isoV args = some v := hv
  replace hk : isoK args = true := hk
  unfold isoV at hv
  split at hv
  · rename_i a f hx
    have ha := args_list hx
    subst ha
    split at hv
    · rename_i Y M D ho mi S W J hx2
      have ha2 := args_list hx2
      subst ha2
      split at hv
      · rename_i hf
        have hf2 : f = isoB := by
          apply ByteArray.ext
          exact Array.toList_inj.1 hf
        subst hf2
        cases hv
        have hok : isoKF Y M D ho mi S = true := by simpa [isoK] using hk
        exact ⟨rfl, rfl, 120, iso_ev Y M D ho mi S W J hok⟩
      · cases hv
    · cases hv
  · cases hv
def headsP (args : Array Value) : Option Value := match args.toList with
  | [] => some (.bool true)
  | _ => none
def headsE : PFn := { f := 12, c := 0, p := headsP }
theorem heads_sound : PSound cx0 headsE := fun i => pureI_sound (cx := cx0) fun args args' v B w E hW hB har hp => by
  have hp' : headsP args = some v := hp
  unfold headsP at hp'
  split at hp'
  · rename_i hx
    cases hp'
    obtain ⟨h11, a, ha, hk⟩ := hW
    have e : args' = #[] := by
      have := har.1
      have h0 : args.size = 0 := by have := congrArg List.length hx; simpa using this
      exact Array.eq_empty_of_size_eq_zero (by omega)
    subst e
    refine (heads_true hk).mono ?_
    rintro e w' ⟨rfl, hb⟩
    exact ⟨rfl, rfl, hb⟩
  · cases hp'
def sYF (x : Nat) : Int := Clk.dateYear (f2i .f64 x / 86400)
def sMF (x : Nat) : Int := Clk.dateMonth (f2i .f64 x / 86400)
def sDF (x : Nat) : Int := Clk.dateDay (f2i .f64 x / 86400)
def shF (x : Nat) : Int := f2i .f64 x % 86400 / 3600
def siF (x : Nat) : Int := f2i .f64 x % 3600 / 60
def sSF (x : Nat) : Nat := Clk.fo (f2i .f64 x % 60)
def sWF (x : Nat) : Int := wdF (f2i .f64 x / 86400)
def sJF (x : Nat) : Int := f2i .f64 x / 86400 - Clk.number (Clk.dateYear (f2i .f64 x / 86400)) 0 1
def rsp3V (args : Array Value) : Option Value := match args.toList with
  | [.float .f64 x] => some (.tuple #[.agg #[.int .i64 (sYF x), .int .i64 (sMF x), .int .i64 (sDF x), .int .i64 (shF x), .int .i64 (siF x), .float .f64 (sSF x), .int .i64 (sWF x), .int .i64 (sJF x)], .int .i64 0])
  | _ => none
theorem rsp3_eq : rsp3V = rsp2V := rfl
def rsp3A : AFn := { f := 20, val := rsp3V, ok := rsp2K }
def csp3A : AFn := { f := 16, val := rsp3V, ok := rsp2K }
theorem rsp3_sound : PSound cx0 rsp3A.pfn := by
  have : rsp3A = rsp2A := by unfold rsp3A rsp2A; rw [rsp3_eq]
  rw [this]; exact rsp2_sound
theorem csp3_sound : PSound cx0 csp3A.pfn := by
  have : csp3A = csp2A := by unfold csp3A csp2A; rw [rsp3_eq]
  rw [this]; exact csp2_sound
def isoTF (Y M D ho mi : Int) (S : Nat) : ByteArray := ⟨#[dgF (Y / 1000), dgF (Y / 100 % 10), dgF (Y / 10 % 10), dgF (Y % 10), 45, dgF ((M + 1) / 10), dgF ((M + 1) % 10), 45, dgF (D / 10), dgF (D % 10), 84, dgF (ho / 10), dgF (ho % 10), 58, dgF (mi / 10), dgF (mi % 10), 58, dgF (f2i .f64 S / 10), dgF (f2i .f64 S % 10), 90]⟩
def iso2V (args : Array Value) : Option Value := match args.toList with
  | [.agg a, .string f] => match a.toList with
    | [.int .i64 Y, .int .i64 M, .int .i64 D, .int .i64 ho, .int .i64 mi, .float .f64 S, .int .i64 W, .int .i64 J] => if f.data.toList = isoB.data.toList then some (.tuple #[.string (isoTF Y M D ho mi S), .int .i64 0]) else none
    | _ => none
  | _ => none
theorem iso2_eq : iso2V = isoV := rfl
def iso2A : AFn := { f := 9, val := iso2V, ok := isoK }
theorem iso2_sound : PSound cx0 iso2A.pfn := by
  have : iso2A = isoA := by unfold iso2A isoA; rw [iso2_eq]
  rw [this]; exact iso_sound
def laQ : List AFn := [rsp3A, iso2A]
theorem laQ_sound : ∀ e ∈ laQ, PSound cx0 e.pfn := asound_cons rsp3_sound (asound_cons iso2_sound asound_nil)
def lpQ : List PFn := [headsE]
theorem lpQ_sound : ∀ e ∈ lpQ, PSound cx0 e := psound_cons heads_sound psound_nil
end Go.Proofs.YthopphfehgdocaaGreatDoor
namespace Go.Proofs.YthopphfehgdocaaGreatDoor
open Go Go.RowKit Go.Ev Go.Proofs Go.Shelf
set_option linter.unusedSimpArgs false
set_option linter.unusedVariables false
def oX (a : Int) : Nat := FloatKind.nearest .f64 (Int.tmod a 253402300800)
def oT (a : Int) : ByteArray := isoTF (sYF (oX a)) (sMF (oX a)) (sDF (oX a)) (shF (oX a)) (siF (oX a)) (sSF (oX a))
def oK (a : Int) : Bool := isoKF (sYF (oX a)) (sMF (oX a)) (sDF (oX a)) (shF (oX a)) (siF (oX a)) (sSF (oX a))
theorem ordA (a b : Int) (h1 : (fsecF (oX a) == true) = true) (h2 : (fsecF (oX b) == true) = true) (h3 : (decide (sYF (oX a) < 1000) == false) = true) (h4 : (decide (sYF (oX b) < 1000) == false) = true) (h5 : ((Ieee.Format.order (FloatKind.format FloatKind.f64) (sSF (oX a)) (sSF (oX a)) != some Ordering.eq) == false) = true) (h6 : (oK a == true) = true) (h7 : (oK b == true) = true) (h8 : (((((oT a).size : Nat) : Int) == 20) == true) = true) (h9 : (((((oT b).size : Nat) : Int) == 20) == true) = true) (h10 : ((decide (Int.tmod a 253402300800 < Int.tmod b 253402300800) == Go.Op.bytesLess (oT a).toList (oT b).toList) == true) = true) (h11 : (((Int.tmod a 253402300800 == Int.tmod b 253402300800) == ((oT a).toList == (oT b).toList)) == true) = true) : ∃ H' nx', evFunc (withB laQ lpQ) 120 7 #[.int .i64 a, .int .i64 b] H0 12 = some (.bool true, H', nx') :=
  orc_sel (hkB laQ lpQ) (m := [false, false, true, true, false, false, false, false, false, false, false, true, true, true, true, true, true, true, true, true, true, false, true, false, true, true, true, true, true, true, true, true, true, true, true, true, true, true, true, true, true, true, true, true, true, true]) (l := [fsecF (oX a) == true, fsecF (oX b) == true, decide (sYF (oX a) < 1000) == false, decide (sYF (oX a) < 1000) == false, decide (sYF (oX a) < 1000) == false, decide (sYF (oX a) < 1000) == false, decide (sYF (oX b) < 1000) == false, decide (sYF (oX b) < 1000) == false, decide (sYF (oX b) < 1000) == false, decide (sYF (oX b) < 1000) == false, (Ieee.Format.order (FloatKind.format FloatKind.f64) (sSF (oX a)) (sSF (oX a)) != some Ordering.eq) == false, oK a == true, oK b == true, ((((oT a).size : Nat) : Int) == 20) == true, ((((oT a).size : Nat) : Int) == 20) == true, ((((oT a).size : Nat) : Int) == 20) == true, ((((oT a).size : Nat) : Int) == 20) == true, ((((oT b).size : Nat) : Int) == 20) == true, ((((oT b).size : Nat) : Int) == 20) == true, ((((oT b).size : Nat) : Int) == 20) == true, ((((oT b).size : Nat) : Int) == 20) == true, ((((oT b).size : Nat) : Int) == 20) == true, ((((oT b).size : Nat) : Int) == 20) == true, ((((oT b).size : Nat) : Int) == 20) == true, ((((oT b).size : Nat) : Int) == 20) == true, (decide (Int.tmod a 253402300800 < Int.tmod b 253402300800) == Go.Op.bytesLess (oT a).toList (oT b).toList) == true, (decide (Int.tmod a 253402300800 < Int.tmod b 253402300800) == Go.Op.bytesLess (oT a).toList (oT b).toList) == true, (decide (Int.tmod a 253402300800 < Int.tmod b 253402300800) == Go.Op.bytesLess (oT a).toList (oT b).toList) == true, (decide (Int.tmod a 253402300800 < Int.tmod b 253402300800) == Go.Op.bytesLess (oT a).toList (oT b).toList) == true, (decide (Int.tmod a 253402300800 < Int.tmod b 253402300800) == Go.Op.bytesLess (oT a).toList (oT b).toList) == true, (decide (Int.tmod a 253402300800 < Int.tmod b 253402300800) == Go.Op.bytesLess (oT a).toList (oT b).toList) == true, (decide (Int.tmod a 253402300800 < Int.tmod b 253402300800) == Go.Op.bytesLess (oT a).toList (oT b).toList) == true, (decide (Int.tmod a 253402300800 < Int.tmod b 253402300800) == Go.Op.bytesLess (oT a).toList (oT b).toList) == true, ((Int.tmod a 253402300800 == Int.tmod b 253402300800) == ((oT a).toList == (oT b).toList)) == true, ((Int.tmod a 253402300800 == Int.tmod b 253402300800) == ((oT a).toList == (oT b).toList)) == true]) (p := [false, false, false, false, false, false, false, false, false, false, false, false, false, false, false, false, false, false, true, true, true, true, true, true, true, true, true, true, true, true, true, true, true, true, true, true, true, true, true, true]) (by kernel_rfl) (by kernel_rfl) (by kernel_rfl) (forall_cons h1 (forall_cons h2 (forall_cons h3 (forall_cons h3 (forall_cons h3 (forall_cons h3 (forall_cons h4 (forall_cons h4 (forall_cons h4 (forall_cons h4 (forall_cons h5 (forall_cons h6 (forall_cons h7 (forall_cons h8 (forall_cons h8 (forall_cons h8 (forall_cons h8 (forall_cons h9 (forall_cons h9 (forall_cons h9 (forall_cons h9 (forall_cons h9 (forall_cons h9 (forall_cons h9 (forall_cons h9 (forall_cons h10 (forall_cons h10 (forall_cons h10 (forall_cons h10 (forall_cons h10 (forall_cons h10 (forall_cons h10 (forall_cons h10 (forall_cons h11 (forall_cons h11 forall_nil)))))))))))))))))))))))))))))))))))
theorem ordB (a b : Int) (h1 : ((fsecF (oX a)) == true) = true) (h2 : ((fsecF (oX b)) == true) = true) (h3 : ((decide ((sYF (oX a)) < 1000)) == true) = true) : ∃ H' nx', evFunc (withB laQ lpQ) 120 7 #[.int .i64 a, .int .i64 b] H0 12 = some (.bool true, H', nx') :=
  orc_sel (hkB laQ lpQ) (m := [false, false, true, true, false, false, false, false, false, false, false, true, true, true, true]) (l := [((fsecF (oX a)) == true), ((fsecF (oX b)) == true), ((decide ((sYF (oX a)) < 1000)) == true), ((decide ((sYF (oX a)) < 1000)) == true), ((decide ((sYF (oX a)) < 1000)) == true), ((decide ((sYF (oX a)) < 1000)) == true)]) (p := [false, false, false, false, false, false, false, true, true, true, true, true, true, true, true, true]) (by kernel_rfl) (by kernel_rfl) (by kernel_rfl) (forall_cons h1 (forall_cons h2 (forall_cons h3 (forall_cons h3 (forall_cons h3 (forall_cons h3 forall_nil))))))
theorem ordC (a b : Int) (h1 : ((fsecF (oX a)) == true) = true) (h2 : ((fsecF (oX b)) == true) = true) (h3 : ((decide ((sYF (oX a)) < 1000)) == false) = true) (h4 : ((decide ((sYF (oX b)) < 1000)) == true) = true) : ∃ H' nx', evFunc (withB laQ lpQ) 120 7 #[.int .i64 a, .int .i64 b] H0 12 = some (.bool true, H', nx') :=
  orc_sel (hkB laQ lpQ) (m := [false, false, true, true, false, false, false, false, false, false, false, true, true, true, true, true, true, true, true]) (l := [((fsecF (oX a)) == true), ((fsecF (oX b)) == true), ((decide ((sYF (oX a)) < 1000)) == false), ((decide ((sYF (oX a)) < 1000)) == false), ((decide ((sYF (oX a)) < 1000)) == false), ((decide ((sYF (oX a)) < 1000)) == false), ((decide ((sYF (oX b)) < 1000)) == true), ((decide ((sYF (oX b)) < 1000)) == true), ((decide ((sYF (oX b)) < 1000)) == true), ((decide ((sYF (oX b)) < 1000)) == true)]) (p := [false, false, false, false, false, false, false, false, false, false, false, true, true, true, true, true]) (by kernel_rfl) (by kernel_rfl) (by kernel_rfl) (forall_cons h1 (forall_cons h2 (forall_cons h3 (forall_cons h3 (forall_cons h3 (forall_cons h3 (forall_cons h4 (forall_cons h4 (forall_cons h4 (forall_cons h4 forall_nil))))))))))
end Go.Proofs.YthopphfehgdocaaGreatDoor
namespace Go.Proofs.YthopphfehgdocaaGreatDoor
open Go Go.RowKit Go.Ev Go.Proofs Go.Shelf Go.Op
set_option linter.unusedSimpArgs false
set_option linter.unusedVariables false
theorem tmod_in (a : Int) : -253402300800 < Int.tmod a 253402300800 ∧ Int.tmod a 253402300800 < 253402300800 := by
  have h1 : Int.tmod a 253402300800 < 253402300800 := Int.tmod_lt_of_pos a (by decide)
  refine ⟨?_, h1⟩
  rcases Int.lt_or_le a 0 with q | q
  · have := Int.tmod_lt_of_pos (-a) (show (0 : Int) < 253402300800 by decide)
    rw [Int.neg_tmod] at this
    omega
  · have := Int.tmod_nonneg 253402300800 q
    omega
theorem oX_f2i (a : Int) : f2i .f64 (oX a) = Int.tmod a 253402300800 := by
  have h := tmod_in a
  exact Clk.f2i_fo _ (by omega)
theorem oX_sec (a : Int) : fsecF (oX a) = true := by
  have h := tmod_in a
  unfold fsecF
  rw [oX_f2i]
  simp only [Bool.and_eq_true, decide_eq_true_eq, beq_iff_eq]
  exact ⟨rfl, by omega, by omega⟩
theorem oX_list (a : Int) : (oT a).toList = isoOf (Int.tmod a 253402300800) := by
  have h := tmod_in a
  rw [ByteArray.toList_eq]
  unfold oT isoTF isoOf isoL sYF sMF sDF shF siF sSF
  rw [oX_f2i, Clk.f2i_fo _ (by omega)]
theorem oX_ok {a : Int} (h : 1000 ≤ sYF (oX a)) : oK a = true := by
  have q := tmod_in a
  unfold oK isoKF
  unfold sYF sMF sDF shF siF sSF
  rw [oX_f2i]
  rw [isT_of _ (by omega) (by omega)]
  unfold sYF at h
  rw [oX_f2i] at h
  have yr := Clk.dateYear_range (Int.tmod a 253402300800 / 86400) (by omega) (by omega)
  unfold it4F
  simp only [Bool.true_and, Bool.and_eq_true, decide_eq_true_eq]
  omega
theorem order_ev (a b : Int) : ∃ H' nx', evFunc (withB laQ lpQ) 120 7 #[.int .i64 a, .int .i64 b] H0 12 = some (.bool true, H', nx') := by
  have qa := tmod_in a
  have qb := tmod_in b
  rcases Int.lt_or_le (sYF (oX a)) 1000 with c | c
  · exact ordB a b (by rw [oX_sec]; rfl) (by rw [oX_sec]; rfl) (by rw [decide_eq_true c]; rfl)
  · have ca : decide (sYF (oX a) < 1000) = false := decide_eq_false (by omega)
    rcases Int.lt_or_le (sYF (oX b)) 1000 with d | d
    · exact ordC a b (by rw [oX_sec]; rfl) (by rw [oX_sec]; rfl) (by rw [ca]; rfl) (by rw [decide_eq_true d]; rfl)
    · have cb : decide (sYF (oX b) < 1000) = false := decide_eq_false (by omega)
      have c' := c
      have d' := d
      unfold sYF at c' d'
      rw [oX_f2i] at c' d'
      have ya := Clk.dateYear_range (Int.tmod a 253402300800 / 86400) (by omega) (by omega)
      have yb := Clk.dateYear_range (Int.tmod b 253402300800 / 86400) (by omega) (by omega)
      have nn : (Ieee.Format.order (FloatKind.format FloatKind.f64) (sSF (oX a)) (sSF (oX a)) != some Ordering.eq) = false := by
        unfold sSF
        rw [oX_f2i]
        exact Clk.ord_self _ (by omega)
      refine ordA a b (by rw [oX_sec]; rfl) (by rw [oX_sec]; rfl) (by rw [ca]; rfl) (by rw [cb]; rfl) (by rw [nn]; rfl) (by rw [oX_ok c]; rfl) (by rw [oX_ok d]; rfl) rfl rfl ?_ ?_
      · rw [oX_list, oX_list]
        rcases Int.lt_trichotomy (Int.tmod a 253402300800) (Int.tmod b 253402300800) with t | t | t
        · rw [(iso_lt t c' ya.2 d' yb.2).1, decide_eq_true t]; rfl
        · rw [t, decide_eq_false (Int.lt_irrefl _)]
          have z : bytesLess (isoOf (Int.tmod b 253402300800)) (isoOf (Int.tmod b 253402300800)) = false := by
            unfold isoOf
            have i := in_of d' yb.2
            rw [iso_less i i]
            simp
          rw [z]; rfl
        · rw [(iso_lt t d' yb.2 c' ya.2).2.1, decide_eq_false (by omega)]; rfl
      · rw [oX_list, oX_list]
        rcases Int.lt_trichotomy (Int.tmod a 253402300800) (Int.tmod b 253402300800) with t | t | t
        · have z := (iso_lt t c' ya.2 d' yb.2).2.2
          have z1 : (isoOf (Int.tmod a 253402300800) == isoOf (Int.tmod b 253402300800)) = false := by simpa using z
          have z2 : (Int.tmod a 253402300800 == Int.tmod b 253402300800) = false := by simp; omega
          rw [z1, z2]; rfl
        · rw [t]; simp
        · have z := (iso_lt t d' yb.2 c' ya.2).2.2
          have z1 : (isoOf (Int.tmod a 253402300800) == isoOf (Int.tmod b 253402300800)) = false := by simpa using fun h => z h.symm
          have z2 : (Int.tmod a 253402300800 == Int.tmod b 253402300800) = false := by simp; omega
          rw [z1, z2]; rfl
end Go.Proofs.YthopphfehgdocaaGreatDoor
