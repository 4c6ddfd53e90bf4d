/- ClockTurns answers true, in every world in which the listed variables hold what they hold. -/
import Derived.Test.YthopphfehgdocaaGreatDoorPlainA
import Derived.Test.YthopphfehgdocaaGreatDoorPlainB
namespace Go.Proofs.YthopphfehgdocaaGreatDoor
open Go Go.RowKit Go.Ev Go.Proofs Go.Shelf
set_option linter.unusedSimpArgs false
set_option linter.unusedVariables false

theorem a90_b90 (s : Int) : b90 s = a90 s := rfl
theorem turns_ev (sec : Int) : ∃ H' nx', evFunc cxT 400 6 #[.int .i64 sec] H0 12 = some (.bool true, H', nx') := by
  have h1 : Int.tmod sec 253402300800 < 253402300800 := Int.tmod_lt_of_pos sec (by decide)
  have h2 : -253402300800 < Int.tmod sec 253402300800 := by
    rcases Int.lt_or_le sec 0 with q | q
    · have := Int.tmod_lt_of_pos (-sec) (show (0 : Int) < 253402300800 by decide)
      rw [Int.neg_tmod] at this
      omega
    · have := Int.tmod_nonneg 253402300800 q
      omega
  by_cases hc : Int.tmod sec 253402300800 < (-62135596800 : Int)
  · have hw : IntKind.i64.wrap (0 - Int.tmod sec 253402300800) = 0 - Int.tmod sec 253402300800 := wrap_id _ (by omega) (by omega)
    rcases Int.lt_or_le (a90 (IntKind.i64.wrap (0 - Int.tmod sec 253402300800))) 10 with q | q
    · refine orc_sel (hk_ok tIntr) (bRoadN sec) (bRestN sec) (bSameN sec) (fun b hb => ?_)
      rcases List.mem_cons.1 hb with rfl | hb
      · simp [hc]
      · exact bAll ⟨by rw [hw]; omega, by rw [hw]; omega, by rw [a90_b90]; exact q⟩ b hb
    · refine orc_sel (hk_ok tIntr) (aRoadN sec) (aRestN sec) (aSameN sec) (fun b hb => ?_)
      rcases List.mem_cons.1 hb with rfl | hb
      · simp [hc]
      · exact aAll ⟨by rw [hw]; omega, by rw [hw]; omega, q⟩ b hb
  · rcases Int.lt_or_le (a90 (Int.tmod sec 253402300800)) 10 with q | q
    · refine orc_sel (hk_ok tIntr) (bRoad sec) (bRest sec) (bSame sec) (fun b hb => ?_)
      rcases List.mem_cons.1 hb with rfl | hb
      · simp [hc]
      · exact bAll ⟨by omega, by omega, by rw [a90_b90]; exact q⟩ b hb
    · refine orc_sel (hk_ok tIntr) (aRoad sec) (aRest sec) (aSame sec) (fun b hb => ?_)
      rcases List.mem_cons.1 hb with rfl | hb
      · simp [hc]
      · exact aAll ⟨by omega, by omega, q⟩ b hb
theorem turns_true (sec : Int) {w : World} {a : Addr} (k : Known w a) : Calls Tryz.prog 6 #[.int .i64 sec] w fun e w' => e = .returned (.bool true) ∧ Below w.heap.size w w' := by
  obtain ⟨H', nx', he⟩ := turns_ev sec
  refine ev_start (cx_ok tIntr) cxT_intr w (start k tIntr) ⟨k.size, a, k.there, k⟩ (show AR (E0 a) #[.int .i64 sec] #[.int .i64 sec] from ⟨rfl, fun i v v' p q => ?_⟩) he rfl
  rw [p] at q
  cases q
  have : v = .int .i64 sec := by
    match i, p with
    | 0, p => simpa using p.symm
    | i + 1, p => simp at p
  subst this
  exact .shut 1 _ rfl
end Go.Proofs.YthopphfehgdocaaGreatDoor
