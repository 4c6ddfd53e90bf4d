import Derived.Test.YthopphfehgdocaaGreatDoorRef2
set_option linter.unusedSimpArgs false
set_option linter.unusedVariables false
namespace Go.Proofs.YthopphfehgdocaaGreatDoor
open Go Go.RowKit Go.Ev Go.Proofs Go.Shelf
def numOkF (y m d : Int) : Bool := decide (-100000 ≤ y) && (decide (y ≤ 100000) && (decide (0 ≤ m) && (decide (m ≤ 11) && (decide (-1000000 ≤ d) && decide (d ≤ 1000000)))))
def numberK2 (args : Array Value) : Bool := match args.toList with
 | [.int .i64 y, .int .i64 m, .int .i64 d] => numOkF y m d == true
 | _ => false
theorem numberK2_eq : numberK2 = numberK := by
 funext a
 unfold numberK2 numberK numOkF
 split
 ·rename_i h; simp [h]
 ·split
  ·rename_i h1 _ _ _ _ h2; exact absurd h2 (h1 _ _ _)
  ·rfl
def numberA2 : AFn := { f := 59, val := numberV, ok := numberK2 }
theorem number2_sound : PSound cx0 numberA2.pfn := by
 have e : numberA2 = numberA := by unfold numberA2 numberA; rw [numberK2_eq]
 rw [e]; exact number_sound
def laD : List AFn := [numberA2]
def lpD : List PFn := [clenE, cleapE, cdateE, weekdayE, divE]
theorem laD_sound : ∀ e ∈ laD, PSound cx0 e.pfn := fun e h => by
 simp only [laD, List.mem_singleton] at h
 subst h
 exact number2_sound
theorem lpD_sound : ∀ e ∈ lpD, PSound cx0 e := psound_cons clen_sound (psound_cons cleap_sound (psound_cons cdate_sound (psound_cons weekday_sound (psound_cons div_sound psound_nil))))
theorem ext_okW (la : List AFn) (lp : List PFn) : ExtOk (withFns cx0 la lp) ext := fun k args v h => ext_ok (tabI (la.map AFn.pfn ++ lp)) k args v h
theorem hkW (la : List AFn) (lp : List PFn) : HookOk (withFns cx0 la lp) hk := hk_eq (tabI (la.map AFn.pfn ++ lp)) (tabA la) ▸ hook_ok (cx := withFns cx0 la lp) (CxOk.withFns cx_ok la lp) (ext_okW la lp) (withFns_asrt la lp)
end Go.Proofs.YthopphfehgdocaaGreatDoor
