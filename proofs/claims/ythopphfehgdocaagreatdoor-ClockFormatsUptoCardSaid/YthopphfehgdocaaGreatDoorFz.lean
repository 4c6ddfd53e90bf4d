import Derived.Test.YthopphfehgdocaaGreatDoorRef3
import Derived.Test.YthopphfehgdocaaGreatDoorHeads
import Derived.Test.YthopphfehgdocaaGreatDoorFm
import Derived.Test.YthopphfehgdocaaGreatDoorWx
import Derived.Test.YthopphfehgdocaaGreatDoorPld
set_option linter.unusedSimpArgs false
set_option linter.unusedVariables false
namespace Go.Proofs.YthopphfehgdocaaGreatDoor
open Go Go.RowKit Go.Ev Go.Proofs Go.Shelf
def headsP (args : Array Value) : Option Value := match args.toList with
 | [] => some (.bool true)
 | _ => none
def headsE : PFn := { f := 12, c := 0, p := headsP }
theorem heads_sound : PSound cx0 headsE := fun i => pureI_sound (cx := cx0) fun args args' v B w E hW hB har hp => by
 have hp' : headsP args = some v := hp
 unfold headsP at hp'
 split at hp'
 ·rename_i hx
  cases hp'
  obtain ⟨h11, a, ha, hk⟩ := hW
  have e : args' = #[] := by
   have := har.1
   have h0 : args.size = 0 := by have := congrArg List.length hx; simpa using this
   exact Array.eq_empty_of_size_eq_zero (by omega)
  subst e
  refine (heads_true hk).mono ?_
  rintro e w' ⟨rfl, hb⟩
  exact ⟨rfl, rfl, hb⟩
 ·cases hp'
def laZ : List AFn := [fmtA, rfmtA]
theorem laZ_sound : ∀ e ∈ laZ, PSound cx0 e.pfn := asound_cons fmt_sound (asound_cons rfmt_sound asound_nil)
def lpZ : List PFn := [headsE]
theorem lpZ_sound : ∀ e ∈ lpZ, PSound cx0 e := psound_cons heads_sound psound_nil
theorem fmtZ (Y M D ho mi : Int) (S : Nat) (W J : Int) (f : ByteArray) (r1 : ((fmtOkF Y M D ho mi S W J f) == true) = true) (r2 : ((rfmtOkF Y M D ho mi S W J f) == true) = true) (r3 : (((ByteArray.toList (fmtTF Y M D ho mi S W J f)) == (ByteArray.toList (rfmt0F Y M D ho mi S W J f))) == true) = true) (r4 : (((fmtEF Y M D ho mi S W J f) == (rfmt1F Y M D ho mi S W J f)) == true) = true) : ∃ H' nx', evFunc (withFns cx0 laZ lpZ) 120 3 #[.agg #[.int .i64 Y, .int .i64 M, .int .i64 D, .int .i64 ho, .int .i64 mi, .float .f64 S, .int .i64 W, .int .i64 J], .string f] H0 12 = some (.bool true, H', nx') :=
 oS (hkW laZ lpZ) (m := (bitsN 9 511)) (p := (bitsN 7 127)) (aC r1 (aC r2 (C5 r3 (C2 r4 aN))))
theorem fmts_ev (Y M D ho mi : Int) (S : Nat) (W J : Int) (f : ByteArray) (hf : f.size ≤ 1048576) : ∃ H' nx', evFunc (withFns cx0 laZ lpZ) 120 3 #[.agg #[.int .i64 Y, .int .i64 M, .int .i64 D, .int .i64 ho, .int .i64 mi, .float .f64 S, .int .i64 W, .int .i64 J], .string f] H0 12 = some (.bool true, H', nx') := by
 obtain ⟨h1, h2, h3, h4⟩ := fmt_all Y M D ho mi S W J f hf
 exact fmtZ Y M D ho mi S W J f (by rw [h1]; rfl) (by rw [h2]; rfl) (by rw [h3]; simp) (by rw [h4]; simp)
theorem fmts_true (Y M D ho mi : Int) (S : Nat) (W J : Int) (f : ByteArray) (hf : f.size ≤ 1048576) {w : World} {a : Addr} (k : Known w a) : Calls Tryz.prog 3 #[.agg #[.int .i64 Y, .int .i64 M, .int .i64 D, .int .i64 ho, .int .i64 mi, .float .f64 S, .int .i64 W, .int .i64 J], .string f] w fun e w' => e = .returned (.bool true) ∧ Below w.heap.size w w' := by
 obtain ⟨H', nx', he⟩ := fmts_ev Y M D ho mi S W J f hf
 exact ev_start (cx := withFns cx0 laZ lpZ) (CxOk.withFns cx_ok laZ lpZ) (withFns_intr laZ_sound lpZ_sound) w (startW k laZ lpZ) ⟨k.size, a, k.there, k⟩ (AR.closed _ (show (#[Value.agg #[.int .i64 Y, .int .i64 M, .int .i64 D, .int .i64 ho, .int .i64 mi, .float .f64 S, .int .i64 W, .int .i64 J], .string f] : Array Value).toList.all (closed 60) = true from rfl)) he rfl
end Go.Proofs.YthopphfehgdocaaGreatDoor
