import Derived.Test.YthopphfehgdocaaGreatDoorDiv
import Derived.Test.YthopphfehgdocaaGreatDoorGen9
import Derived.KernelRfl
import Derived.Test.YthopphfehgdocaaGreatDoorClk2
set_option linter.unusedSimpArgs false
set_option linter.unusedVariables false
namespace Go.Proofs.YthopphfehgdocaaGreatDoor
open Go Go.RowKit Go.Ev Go.Proofs Go.Shelf
theorem leap_p0 (y : Int) (H : Hp) (nx : Nat) (h1 : (((Int.tmod y 4) == 0) == false) = true) : evFunc { cx0 with intr := fun _ => none } 30 193 #[.int .i64 y] H nx = some ((Value.bool false), H, nx + 7) :=
 orc_sel_run (hk_ok (fun _ => none)) (m := [false, true, true, true, true, true, true]) (l := [((Int.tmod y 4) == 0) == false, ((Int.tmod y 4) == 0) == false, ((Int.tmod y 4) == 0) == false, ((Int.tmod y 4) == 0) == false, ((Int.tmod y 4) == 0) == false, ((Int.tmod y 4) == 0) == false]) (p := [false, false, false, false, false, false]) (by kernel_rfl) (by kernel_rfl) (by kernel_rfl) (C6 h1 aN)
theorem leap_p1 (y : Int) (H : Hp) (nx : Nat) (h1 : (((Int.tmod y 4) == 0) == true) = true) (h2 : (((Int.tmod y 100) != 0) == true) = true) : evFunc { cx0 with intr := fun _ => none } 30 193 #[.int .i64 y] H nx = some ((Value.bool true), H, nx + 12) :=
 orc_sel_run (hk_ok (fun _ => none)) (m := [false, true, true, false, true, true, true, true, true, true, true, true]) (l := [((Int.tmod y 4) == 0) == true, ((Int.tmod y 4) == 0) == true, ((Int.tmod y 4) == 0) == true, ((Int.tmod y 4) == 0) == true, ((Int.tmod y 100) != 0) == true, ((Int.tmod y 100) != 0) == true, ((Int.tmod y 100) != 0) == true, ((Int.tmod y 4) == 0) == true, ((Int.tmod y 100) != 0) == true, ((Int.tmod y 4) == 0) == true]) (p := [true, true, true, true, true, true, true, true, true, true]) (by kernel_rfl) (by kernel_rfl) (by kernel_rfl) (C4 h1 (C3 h2 (aC h1 (aC h2 (aC h1 aN)))))
theorem leap_p2 (y : Int) (H : Hp) (nx : Nat) (h1 : (((Int.tmod y 4) == 0) == true) = true) (h2 : (((Int.tmod y 100) != 0) == false) = true) : evFunc { cx0 with intr := fun _ => none } 30 193 #[.int .i64 y] H nx = some ((Value.bool ((Int.tmod y 400) == 0)), H, nx + 15) :=
 orc_sel_run (hk_ok (fun _ => none)) (m := [false, true, true, false, true, true, true, true, false, true, true, true, true]) (l := [((Int.tmod y 4) == 0) == true, ((Int.tmod y 4) == 0) == true, ((Int.tmod y 4) == 0) == true, ((Int.tmod y 4) == 0) == true, ((Int.tmod y 100) != 0) == false, ((Int.tmod y 100) != 0) == false, ((Int.tmod y 100) != 0) == false, ((Int.tmod y 4) == 0) == true, ((Int.tmod y 100) != 0) == false, ((Int.tmod y 4) == 0) == true]) (p := [true, true, true, true, false, false, false, true, false, true]) (by kernel_rfl) (by kernel_rfl) (by kernel_rfl) (C4 h1 (C3 h2 (aC h1 (aC h2 (aC h1 aN)))))
def leapF (y : Int) : Bool := (Int.tmod y 4 == 0) && ((Int.tmod y 100 != 0) || (Int.tmod y 400 == 0))
def leapE : PFn := { f := 193, c := 15, p := fun args => match args.toList with
 | [.int .i64 y] => some (.bool (leapF y))
 | _ => none }
theorem leap_sound : PSound cx0 leapE := psound_of_ev (cx_ok _) cx0_intr fun args v h H nx => by
 unfold leapE at h
 simp only at h
 split at h
 ·rename_i y hy
  cases h
  have := args_one hy
  subst this
  cases h1 : (Int.tmod y 4 == 0) with
  | false => exact ⟨30, 7, by have := leap_p0 y H nx (by rw [h1]; rfl); rw [leapF, h1]; exact this, by decide⟩
  | true =>
   cases h2 : (Int.tmod y 100 != 0) with
   | true => exact ⟨30, 12, by have := leap_p1 y H nx (by rw [h1]; rfl) (by rw [h2]; rfl); rw [leapF, h1, h2]; exact this, by decide⟩
   | false => exact ⟨30, 15, by have := leap_p2 y H nx (by rw [h1]; rfl) (by rw [h2]; rfl); rw [leapF, h1, h2]; exact this, by decide⟩
 ·cases h
def divE : PFn := { f := 56, c := 19, p := divP }
theorem div_sound : PSound cx0 divE := psound_of_ev (cx_ok _) cx0_intr fun args v h H nx => by
 obtain ⟨n, k, h1, h2⟩ := div_ev (args := args) (v := v) h H nx
 exact ⟨n, k, h1, h2⟩
def lev1 : List PFn := [leapE, divE]
theorem lev1_sound : ∀ e ∈ lev1, PSound cx0 e := psound_cons leap_sound (psound_cons div_sound psound_nil)
theorem cx1_intr : IntrOk { cx0 with intr := tabI lev1 } := tabI_ok lev1_sound
theorem year_p0 (y : Int) (H : Hp) (nx : Nat) (h1 : ((leapF y) == false) = true) : evFunc { cx0 with intr := tabI lev1 } 30 150 #[.int .i64 y] H nx = some ((Value.int IntKind.i64 365), H, nx + 4) :=
 orc_sel_run (hk_ok (tabI lev1)) (m := [true]) (l := [(leapF y) == false]) (p := [false]) (by kernel_rfl) (by kernel_rfl) (by kernel_rfl) (aC h1 aN)
theorem year_p1 (y : Int) (H : Hp) (nx : Nat) (h1 : ((leapF y) == true) = true) : evFunc { cx0 with intr := tabI lev1 } 30 150 #[.int .i64 y] H nx = some ((Value.int IntKind.i64 366), H, nx + 4) :=
 orc_sel_run (hk_ok (tabI lev1)) (m := [true]) (l := [(leapF y) == true]) (p := [true]) (by kernel_rfl) (by kernel_rfl) (by kernel_rfl) (aC h1 aN)
theorem floor_p0 (n b : Int) (H : Hp) (nx : Nat) (h1 : (!(b == 0)) = true) (h2 : ((decide ((Int.tmod n b) < 0)) == false) = true) : evFunc { cx0 with intr := tabI lev1 } 30 64 #[.int .i64 n, .int .i64 b] H nx = some ((Value.tuple #[(Value.int IntKind.i64 (IntKind.i64.wrap (Int.tdiv n b))), (Value.int IntKind.i64 (Int.tmod n b))]), H, nx + 16) :=
 orc_sel_run (hk_ok (tabI lev1)) (m := [true, true, true]) (l := [!(b == 0), !(b == 0), (decide ((Int.tmod n b) < 0)) == false]) (p := [false]) (by kernel_rfl) (by kernel_rfl) (by kernel_rfl) (C2 h1 (aC h2 aN))
theorem floor_p1 (n b : Int) (H : Hp) (nx : Nat) (h1 : (!(b == 0)) = true) (h2 : ((decide ((Int.tmod n b) < 0)) == true) = true) : evFunc { cx0 with intr := tabI lev1 } 30 64 #[.int .i64 n, .int .i64 b] H nx = some ((Value.tuple #[(Value.int IntKind.i64 (IntKind.i64.wrap ((IntKind.i64.wrap (Int.tdiv n b)) - 1))), (Value.int IntKind.i64 (IntKind.i64.wrap ((Int.tmod n b) + b)))]), H, nx + 23) :=
 orc_sel_run (hk_ok (tabI lev1)) (m := [true, true, true]) (l := [!(b == 0), !(b == 0), (decide ((Int.tmod n b) < 0)) == true]) (p := [true]) (by kernel_rfl) (by kernel_rfl) (by kernel_rfl) (C2 h1 (aC h2 aN))
theorem len_p0 (y m : Int) (H : Hp) (nx : Nat) (h1 : ((m == 0) == true) = true) : evFunc { cx0 with intr := tabI lev1 } 30 149 #[.int .i64 y, .int .i64 m] H nx = some ((Value.int IntKind.i64 31), H, nx + 5) :=
 orc_sel_run (hk_ok (tabI lev1)) (m := [true, true]) (l := [(m == 0) == true, (m == 0) == true]) (p := [true, true]) (by kernel_rfl) (by kernel_rfl) (by kernel_rfl) (C2 h1 aN)
theorem len_p1 (y m : Int) (H : Hp) (nx : Nat) (h1 : ((m == 0) == false) = true) (h2 : ((m == 2) == true) = true) : evFunc { cx0 with intr := tabI lev1 } 30 149 #[.int .i64 y, .int .i64 m] H nx = some ((Value.int IntKind.i64 31), H, nx + 7) :=
 orc_sel_run (hk_ok (tabI lev1)) (m := [true, true, true]) (l := [(m == 0) == false, (m == 2) == true, (m == 2) == true]) (p := [false, true, true]) (by kernel_rfl) (by kernel_rfl) (by kernel_rfl) (aC h1 (C2 h2 aN))
theorem len_p2 (y m : Int) (H : Hp) (nx : Nat) (h1 : ((m == 0) == false) = true) (h2 : ((m == 2) == false) = true) (h3 : ((m == 4) == true) = true) : evFunc { cx0 with intr := tabI lev1 } 30 149 #[.int .i64 y, .int .i64 m] H nx = some ((Value.int IntKind.i64 31), H, nx + 9) :=
 orc_sel_run (hk_ok (tabI lev1)) (m := [true, true, true, true]) (l := [(m == 0) == false, (m == 2) == false, (m == 4) == true, (m == 4) == true]) (p := [false, false, true, true]) (by kernel_rfl) (by kernel_rfl) (by kernel_rfl) (aC h1 (aC h2 (C2 h3 aN)))
theorem len_p3 (y m : Int) (H : Hp) (nx : Nat) (h1 : ((m == 0) == false) = true) (h2 : ((m == 2) == false) = true) (h3 : ((m == 4) == false) = true) (h4 : ((m == 6) == true) = true) : evFunc { cx0 with intr := tabI lev1 } 30 149 #[.int .i64 y, .int .i64 m] H nx = some ((Value.int IntKind.i64 31), H, nx + 11) :=
 orc_sel_run (hk_ok (tabI lev1)) (m := [true, true, true, true, true]) (l := [(m == 0) == false, (m == 2) == false, (m == 4) == false, (m == 6) == true, (m == 6) == true]) (p := [false, false, false, true, true]) (by kernel_rfl) (by kernel_rfl) (by kernel_rfl) (aC h1 (aC h2 (aC h3 (C2 h4 aN))))
theorem len_p4 (y m : Int) (H : Hp) (nx : Nat) (h1 : ((m == 0) == false) = true) (h2 : ((m == 2) == false) = true) (h3 : ((m == 4) == false) = true) (h4 : ((m == 6) == false) = true) (h5 : ((m == 7) == true) = true) : evFunc { cx0 with intr := tabI lev1 } 30 149 #[.int .i64 y, .int .i64 m] H nx = some ((Value.int IntKind.i64 31), H, nx + 13) :=
 orc_sel_run (hk_ok (tabI lev1)) (m := [true, true, true, true, true, true]) (l := [(m == 0) == false, (m == 2) == false, (m == 4) == false, (m == 6) == false, (m == 7) == true, (m == 7) == true]) (p := [false, false, false, false, true, true]) (by kernel_rfl) (by kernel_rfl) (by kernel_rfl) (aC h1 (aC h2 (aC h3 (aC h4 (C2 h5 aN)))))
theorem len_p5 (y m : Int) (H : Hp) (nx : Nat) (h1 : ((m == 0) == false) = true) (h2 : ((m == 2) == false) = true) (h3 : ((m == 4) == false) = true) (h4 : ((m == 6) == false) = true) (h5 : ((m == 7) == false) = true) (h6 : ((m == 9) == true) = true) : evFunc { cx0 with intr := tabI lev1 } 30 149 #[.int .i64 y, .int .i64 m] H nx = some ((Value.int IntKind.i64 31), H, nx + 15) :=
 orc_sel_run (hk_ok (tabI lev1)) (m := [true, true, true, true, true, true, true]) (l := [(m == 0) == false, (m == 2) == false, (m == 4) == false, (m == 6) == false, (m == 7) == false, (m == 9) == true, (m == 9) == true]) (p := [false, false, false, false, false, true, true]) (by kernel_rfl) (by kernel_rfl) (by kernel_rfl) (aC h1 (aC h2 (aC h3 (aC h4 (aC h5 (C2 h6 aN))))))
theorem len_p6 (y m : Int) (H : Hp) (nx : Nat) (h1 : ((m == 0) == false) = true) (h2 : ((m == 2) == false) = true) (h3 : ((m == 4) == false) = true) (h4 : ((m == 6) == false) = true) (h5 : ((m == 7) == false) = true) (h6 : ((m == 9) == false) = true) (h7 : ((m == 11) == true) = true) : evFunc { cx0 with intr := tabI lev1 } 30 149 #[.int .i64 y, .int .i64 m] H nx = some ((Value.int IntKind.i64 31), H, nx + 17) :=
 orc_sel_run (hk_ok (tabI lev1)) (m := [true, true, true, true, true, true, true]) (l := [(m == 0) == false, (m == 2) == false, (m == 4) == false, (m == 6) == false, (m == 7) == false, (m == 9) == false, (m == 11) == true]) (p := [false, false, false, false, false, false, true]) (by kernel_rfl) (by kernel_rfl) (by kernel_rfl) (aC h1 (aC h2 (aC h3 (aC h4 (aC h5 (aC h6 (aC h7 aN)))))))
theorem len_p7 (y m : Int) (H : Hp) (nx : Nat) (h1 : ((m == 0) == false) = true) (h2 : ((m == 2) == false) = true) (h3 : ((m == 4) == false) = true) (h4 : ((m == 6) == false) = true) (h5 : ((m == 7) == false) = true) (h6 : ((m == 9) == false) = true) (h7 : ((m == 11) == false) = true) (h8 : ((m == 3) == true) = true) : evFunc { cx0 with intr := tabI lev1 } 30 149 #[.int .i64 y, .int .i64 m] H nx = some ((Value.int IntKind.i64 30), H, nx + 19) :=
 orc_sel_run (hk_ok (tabI lev1)) (m := [true, true, true, true, true, true, true, true, true]) (l := [(m == 0) == false, (m == 2) == false, (m == 4) == false, (m == 6) == false, (m == 7) == false, (m == 9) == false, (m == 11) == false, (m == 3) == true, (m == 3) == true]) (p := [false, false, false, false, false, false, false, true, true]) (by kernel_rfl) (by kernel_rfl) (by kernel_rfl) (aC h1 (aC h2 (aC h3 (aC h4 (aC h5 (aC h6 (aC h7 (C2 h8 aN))))))))
theorem len_p8 (y m : Int) (H : Hp) (nx : Nat) (h1 : ((m == 0) == false) = true) (h2 : ((m == 2) == false) = true) (h3 : ((m == 4) == false) = true) (h4 : ((m == 6) == false) = true) (h5 : ((m == 7) == false) = true) (h6 : ((m == 9) == false) = true) (h7 : ((m == 11) == false) = true) (h8 : ((m == 3) == false) = true) (h9 : ((m == 5) == true) = true) : evFunc { cx0 with intr := tabI lev1 } 30 149 #[.int .i64 y, .int .i64 m] H nx = some ((Value.int IntKind.i64 30), H, nx + 21) :=
 orc_sel_run (hk_ok (tabI lev1)) (m := [true, true, true, true, true, true, true, true, true, true]) (l := [(m == 0) == false, (m == 2) == false, (m == 4) == false, (m == 6) == false, (m == 7) == false, (m == 9) == false, (m == 11) == false, (m == 3) == false, (m == 5) == true, (m == 5) == true]) (p := [false, false, false, false, false, false, false, false, true, true]) (by kernel_rfl) (by kernel_rfl) (by kernel_rfl) (aC h1 (aC h2 (aC h3 (aC h4 (aC h5 (aC h6 (aC h7 (aC h8 (C2 h9 aN)))))))))
theorem len_p9 (y m : Int) (H : Hp) (nx : Nat) (h1 : ((m == 0) == false) = true) (h2 : ((m == 2) == false) = true) (h3 : ((m == 4) == false) = true) (h4 : ((m == 6) == false) = true) (h5 : ((m == 7) == false) = true) (h6 : ((m == 9) == false) = true) (h7 : ((m == 11) == false) = true) (h8 : ((m == 3) == false) = true) (h9 : ((m == 5) == false) = true) (h10 : ((m == 8) == true) = true) : evFunc { cx0 with intr := tabI lev1 } 30 149 #[.int .i64 y, .int .i64 m] H nx = some ((Value.int IntKind.i64 30), H, nx + 23) :=
 orc_sel_run (hk_ok (tabI lev1)) (m := [true, true, true, true, true, true, true, true, true, true, true]) (l := [(m == 0) == false, (m == 2) == false, (m == 4) == false, (m == 6) == false, (m == 7) == false, (m == 9) == false, (m == 11) == false, (m == 3) == false, (m == 5) == false, (m == 8) == true, (m == 8) == true]) (p := [false, false, false, false, false, false, false, false, false, true, true]) (by kernel_rfl) (by kernel_rfl) (by kernel_rfl) (aC h1 (aC h2 (aC h3 (aC h4 (aC h5 (aC h6 (aC h7 (aC h8 (aC h9 (C2 h10 aN))))))))))
theorem len_p10 (y m : Int) (H : Hp) (nx : Nat) (h1 : ((m == 0) == false) = true) (h2 : ((m == 2) == false) = true) (h3 : ((m == 4) == false) = true) (h4 : ((m == 6) == false) = true) (h5 : ((m == 7) == false) = true) (h6 : ((m == 9) == false) = true) (h7 : ((m == 11) == false) = true) (h8 : ((m == 3) == false) = true) (h9 : ((m == 5) == false) = true) (h10 : ((m == 8) == false) = true) (h11 : ((m == 10) == true) = true) : evFunc { cx0 with intr := tabI lev1 } 30 149 #[.int .i64 y, .int .i64 m] H nx = some ((Value.int IntKind.i64 30), H, nx + 25) :=
 orc_sel_run (hk_ok (tabI lev1)) (m := [true, true, true, true, true, true, true, true, true, true, true]) (l := [(m == 0) == false, (m == 2) == false, (m == 4) == false, (m == 6) == false, (m == 7) == false, (m == 9) == false, (m == 11) == false, (m == 3) == false, (m == 5) == false, (m == 8) == false, (m == 10) == true]) (p := [false, false, false, false, false, false, false, false, false, false, true]) (by kernel_rfl) (by kernel_rfl) (by kernel_rfl) (aC h1 (aC h2 (aC h3 (aC h4 (aC h5 (aC h6 (aC h7 (aC h8 (aC h9 (aC h10 (aC h11 aN)))))))))))
theorem len_p11 (y m : Int) (H : Hp) (nx : Nat) (h1 : ((m == 0) == false) = true) (h2 : ((m == 2) == false) = true) (h3 : ((m == 4) == false) = true) (h4 : ((m == 6) == false) = true) (h5 : ((m == 7) == false) = true) (h6 : ((m == 9) == false) = true) (h7 : ((m == 11) == false) = true) (h8 : ((m == 3) == false) = true) (h9 : ((m == 5) == false) = true) (h10 : ((m == 8) == false) = true) (h11 : ((m == 10) == false) = true) (h12 : ((m == 1) == true) = true) (h13 : ((leapF y) == false) = true) : evFunc { cx0 with intr := tabI lev1 } 30 149 #[.int .i64 y, .int .i64 m] H nx = some ((Value.int IntKind.i64 28), H, nx + 29) :=
 orc_sel_run (hk_ok (tabI lev1)) (m := [true, true, true, true, true, true, true, true, true, true, true, true, true]) (l := [(m == 0) == false, (m == 2) == false, (m == 4) == false, (m == 6) == false, (m == 7) == false, (m == 9) == false, (m == 11) == false, (m == 3) == false, (m == 5) == false, (m == 8) == false, (m == 10) == false, (m == 1) == true, (leapF y) == false]) (p := [false, false, false, false, false, false, false, false, false, false, false, true, false]) (by kernel_rfl) (by kernel_rfl) (by kernel_rfl) (aC h1 (aC h2 (aC h3 (aC h4 (aC h5 (aC h6 (aC h7 (aC h8 (aC h9 (aC h10 (aC h11 (aC h12 (aC h13 aN)))))))))))))
theorem len_p12 (y m : Int) (H : Hp) (nx : Nat) (h1 : ((m == 0) == false) = true) (h2 : ((m == 2) == false) = true) (h3 : ((m == 4) == false) = true) (h4 : ((m == 6) == false) = true) (h5 : ((m == 7) == false) = true) (h6 : ((m == 9) == false) = true) (h7 : ((m == 11) == false) = true) (h8 : ((m == 3) == false) = true) (h9 : ((m == 5) == false) = true) (h10 : ((m == 8) == false) = true) (h11 : ((m == 10) == false) = true) (h12 : ((m == 1) == true) = true) (h13 : ((leapF y) == true) = true) : evFunc { cx0 with intr := tabI lev1 } 30 149 #[.int .i64 y, .int .i64 m] H nx = some ((Value.int IntKind.i64 29), H, nx + 29) :=
 orc_sel_run (hk_ok (tabI lev1)) (m := [true, true, true, true, true, true, true, true, true, true, true, true, true]) (l := [(m == 0) == false, (m == 2) == false, (m == 4) == false, (m == 6) == false, (m == 7) == false, (m == 9) == false, (m == 11) == false, (m == 3) == false, (m == 5) == false, (m == 8) == false, (m == 10) == false, (m == 1) == true, (leapF y) == true]) (p := [false, false, false, false, false, false, false, false, false, false, false, true, true]) (by kernel_rfl) (by kernel_rfl) (by kernel_rfl) (aC h1 (aC h2 (aC h3 (aC h4 (aC h5 (aC h6 (aC h7 (aC h8 (aC h9 (aC h10 (aC h11 (aC h12 (aC h13 aN)))))))))))))
theorem len_p13 (y m : Int) (H : Hp) (nx : Nat) (h1 : ((m == 0) == false) = true) (h2 : ((m == 2) == false) = true) (h3 : ((m == 4) == false) = true) (h4 : ((m == 6) == false) = true) (h5 : ((m == 7) == false) = true) (h6 : ((m == 9) == false) = true) (h7 : ((m == 11) == false) = true) (h8 : ((m == 3) == false) = true) (h9 : ((m == 5) == false) = true) (h10 : ((m == 8) == false) = true) (h11 : ((m == 10) == false) = true) (h12 : ((m == 1) == false) = true) : evFunc { cx0 with intr := tabI lev1 } 30 149 #[.int .i64 y, .int .i64 m] H nx = some ((Value.int IntKind.i64 0), H, nx + 27) :=
 orc_sel_run (hk_ok (tabI lev1)) (m := [true, true, true, true, true, true, true, true, true, true, true, true]) (l := [(m == 0) == false, (m == 2) == false, (m == 4) == false, (m == 6) == false, (m == 7) == false, (m == 9) == false, (m == 11) == false, (m == 3) == false, (m == 5) == false, (m == 8) == false, (m == 10) == false, (m == 1) == false]) (p := [false, false, false, false, false, false, false, false, false, false, false, false]) (by kernel_rfl) (by kernel_rfl) (by kernel_rfl) (aC h1 (aC h2 (aC h3 (aC h4 (aC h5 (aC h6 (aC h7 (aC h8 (aC h9 (aC h10 (aC h11 (aC h12 aN))))))))))))
def yearF (y : Int) : Int := bif leapF y then 366 else 365
def yearE : PFn := { f := 150, c := 40, p := fun args => match args.toList with
 | [.int .i64 y] => some (.int .i64 (yearF y))
 | _ => none }
theorem year_sound : PSound cx0 yearE := psound_of_ev (cx_ok _) cx1_intr fun args v h H nx => by
 unfold yearE at h
 simp only at h
 split at h
 ·rename_i y hy
  cases h
  have := args_one hy
  subst this
  cases h1 : leapF y with
  | false => exact ⟨30, _, by have := year_p0 y H nx (by rw [h1]; rfl); rw [yearF, h1]; exact this, by decide⟩
  | true => exact ⟨30, _, by have := year_p1 y H nx (by rw [h1]; rfl); rw [yearF, h1]; exact this, by decide⟩
 ·cases h
def floorE : PFn := { f := 64, c := 40, p := divP }
theorem floor_sound : PSound cx0 floorE := psound_of_ev (cx_ok _) cx1_intr fun args v h H nx => by
 replace h : divP args = some v := h
 unfold divP at h
 split at h
 ·rename_i n b hx
  have ha := args_two hx
  subst ha
  split at h
  ·rename_i hb
   cases h
   simp only [Bool.and_eq_true, decide_eq_true_eq] at hb
   have hb0 : (b == 0) = false := by simp; omega
   have e := Clk.divide_eq n b hb.1
   have hlt : n % b < b := Int.emod_lt_of_pos n hb.1
   have hge : 0 ≤ n % b := Int.emod_nonneg n (by omega)
   by_cases hr : n.tmod b < 0
   ·rw [if_pos hr] at e
    simp only [Prod.mk.injEq] at e
    have := floor_p1 n b H nx (by rw [hb0]; rfl) (by simp [hr])
    refine ⟨30, 23, ?_, by decide⟩
    rw [wrap_wrap_sub, e.1, e.2, wrap_id (n % b) (by omega) (by omega)] at this
    exact this
   ·rw [if_neg hr] at e
    simp only [Prod.mk.injEq] at e
    have := floor_p0 n b H nx (by rw [hb0]; rfl) (by simp [hr])
    refine ⟨30, 16, ?_, by decide⟩
    rw [e.1, e.2] at this
    exact this
  ·cases h
 ·cases h
def lenF (y m : Int) : Int := (bif m == 0 then 31 else (bif m == 2 then 31 else (bif m == 4 then 31 else (bif m == 6 then 31 else (bif m == 7 then 31 else (bif m == 9 then 31 else (bif m == 11 then 31 else (bif m == 3 then 30 else (bif m == 5 then 30 else (bif m == 8 then 30 else (bif m == 10 then 30 else (bif m == 1 then (bif leapF y then 29 else 28) else 0))))))))))))
def lenE : PFn := { f := 149, c := 60, p := fun args => match args.toList with
 | [.int .i64 y, .int .i64 m] => some (.int .i64 (lenF y m))
 | _ => none }
theorem len_sound : PSound cx0 lenE := psound_of_ev (cx_ok _) cx1_intr fun args v h H nx => by
 unfold lenE at h
 simp only at h
 split at h
 ·rename_i y m hy
  cases h
  have := args_two hy
  subst this
  cases e0 : (m == 0) with
  | true =>
   exact ⟨30, _, by have := len_p0 y m H nx (by rw [e0]; rfl); rw [lenF, e0]; exact this, by decide⟩
  | false =>
  cases e1 : (m == 2) with
  | true =>
   exact ⟨30, _, by have := len_p1 y m H nx (by rw [e0]; rfl) (by rw [e1]; rfl); rw [lenF, e0, e1]; exact this, by decide⟩
  | false =>
  cases e2 : (m == 4) with
  | true =>
   exact ⟨30, _, by have := len_p2 y m H nx (by rw [e0]; rfl) (by rw [e1]; rfl) (by rw [e2]; rfl); rw [lenF, e0, e1, e2]; exact this, by decide⟩
  | false =>
  cases e3 : (m == 6) with
  | true =>
   exact ⟨30, _, by have := len_p3 y m H nx (by rw [e0]; rfl) (by rw [e1]; rfl) (by rw [e2]; rfl) (by rw [e3]; rfl); rw [lenF, e0, e1, e2, e3]; exact this, by decide⟩
  | false =>
  cases e4 : (m == 7) with
  | true =>
   exact ⟨30, _, by have := len_p4 y m H nx (by rw [e0]; rfl) (by rw [e1]; rfl) (by rw [e2]; rfl) (by rw [e3]; rfl) (by rw [e4]; rfl); rw [lenF, e0, e1, e2, e3, e4]; exact this, by decide⟩
  | false =>
  cases e5 : (m == 9) with
  | true =>
   exact ⟨30, _, by have := len_p5 y m H nx (by rw [e0]; rfl) (by rw [e1]; rfl) (by rw [e2]; rfl) (by rw [e3]; rfl) (by rw [e4]; rfl) (by rw [e5]; rfl); rw [lenF, e0, e1, e2, e3, e4, e5]; exact this, by decide⟩
  | false =>
  cases e6 : (m == 11) with
  | true =>
   exact ⟨30, _, by have := len_p6 y m H nx (by rw [e0]; rfl) (by rw [e1]; rfl) (by rw [e2]; rfl) (by rw [e3]; rfl) (by rw [e4]; rfl) (by rw [e5]; rfl) (by rw [e6]; rfl); rw [lenF, e0, e1, e2, e3, e4, e5, e6]; exact this, by decide⟩
  | false =>
  cases e7 : (m == 3) with
  | true =>
   exact ⟨30, _, by have := len_p7 y m H nx (by rw [e0]; rfl) (by rw [e1]; rfl) (by rw [e2]; rfl) (by rw [e3]; rfl) (by rw [e4]; rfl) (by rw [e5]; rfl) (by rw [e6]; rfl) (by rw [e7]; rfl); rw [lenF, e0, e1, e2, e3, e4, e5, e6, e7]; exact this, by decide⟩
  | false =>
  cases e8 : (m == 5) with
  | true =>
   exact ⟨30, _, by have := len_p8 y m H nx (by rw [e0]; rfl) (by rw [e1]; rfl) (by rw [e2]; rfl) (by rw [e3]; rfl) (by rw [e4]; rfl) (by rw [e5]; rfl) (by rw [e6]; rfl) (by rw [e7]; rfl) (by rw [e8]; rfl); rw [lenF, e0, e1, e2, e3, e4, e5, e6, e7, e8]; exact this, by decide⟩
  | false =>
  cases e9 : (m == 8) with
  | true =>
   exact ⟨30, _, by have := len_p9 y m H nx (by rw [e0]; rfl) (by rw [e1]; rfl) (by rw [e2]; rfl) (by rw [e3]; rfl) (by rw [e4]; rfl) (by rw [e5]; rfl) (by rw [e6]; rfl) (by rw [e7]; rfl) (by rw [e8]; rfl) (by rw [e9]; rfl); rw [lenF, e0, e1, e2, e3, e4, e5, e6, e7, e8, e9]; exact this, by decide⟩
  | false =>
  cases e10 : (m == 10) with
  | true =>
   exact ⟨30, _, by have := len_p10 y m H nx (by rw [e0]; rfl) (by rw [e1]; rfl) (by rw [e2]; rfl) (by rw [e3]; rfl) (by rw [e4]; rfl) (by rw [e5]; rfl) (by rw [e6]; rfl) (by rw [e7]; rfl) (by rw [e8]; rfl) (by rw [e9]; rfl) (by rw [e10]; rfl); rw [lenF, e0, e1, e2, e3, e4, e5, e6, e7, e8, e9, e10]; exact this, by decide⟩
  | false =>
  cases eq : (m == 1) with
  | true =>
   cases el : leapF y with
   | false => exact ⟨30, _, by have := len_p11 y m H nx (by rw [e0]; rfl) (by rw [e1]; rfl) (by rw [e2]; rfl) (by rw [e3]; rfl) (by rw [e4]; rfl) (by rw [e5]; rfl) (by rw [e6]; rfl) (by rw [e7]; rfl) (by rw [e8]; rfl) (by rw [e9]; rfl) (by rw [e10]; rfl) (by rw [eq]; rfl) (by rw [el]; rfl); rw [lenF, e0, e1, e2, e3, e4, e5, e6, e7, e8, e9, e10, eq, el]; exact this, by decide⟩
   | true => exact ⟨30, _, by have := len_p12 y m H nx (by rw [e0]; rfl) (by rw [e1]; rfl) (by rw [e2]; rfl) (by rw [e3]; rfl) (by rw [e4]; rfl) (by rw [e5]; rfl) (by rw [e6]; rfl) (by rw [e7]; rfl) (by rw [e8]; rfl) (by rw [e9]; rfl) (by rw [e10]; rfl) (by rw [eq]; rfl) (by rw [el]; rfl); rw [lenF, e0, e1, e2, e3, e4, e5, e6, e7, e8, e9, e10, eq, el]; exact this, by decide⟩
  | false => exact ⟨30, _, by have := len_p13 y m H nx (by rw [e0]; rfl) (by rw [e1]; rfl) (by rw [e2]; rfl) (by rw [e3]; rfl) (by rw [e4]; rfl) (by rw [e5]; rfl) (by rw [e6]; rfl) (by rw [e7]; rfl) (by rw [e8]; rfl) (by rw [e9]; rfl) (by rw [e10]; rfl) (by rw [eq]; rfl); rw [lenF, e0, e1, e2, e3, e4, e5, e6, e7, e8, e9, e10, eq]; exact this, by decide⟩
 ·cases h
def lev2 : List PFn := [yearE, lenE, floorE, divE, leapE]
theorem lev2_sound : ∀ e ∈ lev2, PSound cx0 e := psound_cons year_sound (psound_cons len_sound (psound_cons floor_sound (psound_cons div_sound (psound_cons leap_sound psound_nil))))
theorem cx2_intr : IntrOk { cx0 with intr := tabI lev2 } := tabI_ok lev2_sound
noncomputable def cx2 : Cx := { cx0 with intr := tabI lev2 }
theorem hk2 : HookOk cx2 hk := hk_ok (tabI lev2)
def bodyOf (f : Func) : List Code := match f.body with
 | some c => Go.Ev.spine c
 | none => []
def loopsOf : List Code → Nat → List (Nat × Nat × Code)
 | [], _ => []
 | .block id (.loop b) :: r, i => (i, id, b) :: loopsOf r (i + 1)
 | _ :: r, i => loopsOf r (i + 1)
def loopB (f : Func) (k : Nat) : Code := match (loopsOf (bodyOf f) 0)[k]? with
 | some (_, _, b) => b
 | none => .skip
abbrev I (n : Int) : Value := .int .i64 n
noncomputable def d1 : Code := loopB Tryz.f51 0
def d1g (r y : Int) (g : Nat → Option Value) : Nat → Option Value :=
 upd [(22, I r), (23, I y), (24, I (yearF y)), (25, .bool (decide (r ≥ yearF y))), (26, I r), (27, I y), (28, I (yearF y)), (29, I (IntKind.i64.wrap (r - yearF y))), (30, I y), (31, I (IntKind.i64.wrap (y + 1)))] g
def d1s (c r y : Int) (g : Nat → Option Value) : T Value := lst 6 [(6, I c), (7, I r), (8, I y)] g
theorem d1_more (c r y : Int) (g : Nat → Option Value) (H : Hp) (nx : Nat) (h : (decide (r ≥ yearF y)) = true) :
  EvC cx2 51 d1 { tm := d1s c r y g, H, nx } .normal { tm := d1s c (IntKind.i64.wrap (r - yearF y)) (IntKind.i64.wrap (y + 1)) (d1g r y g), H, nx := nx + 12 } :=
 ⟨5, 20, orc_code hk2 (p := [true]) (m := [true]) (l := [decide (r ≥ yearF y) == true]) (by kernel_rfl) (by kernel_rfl) (by kernel_rfl) (aC (by rw [h]; rfl) aN)⟩
def d1x (r y : Int) (g : Nat → Option Value) : Nat → Option Value := upd [(22, I r), (23, I y), (24, I (yearF y)), (25, .bool (decide (r ≥ yearF y)))] g
theorem d1_exit (c r y : Int) (g : Nat → Option Value) (H : Hp) (nx : Nat) (h : (decide (r ≥ yearF y)) = false) :
  EvC cx2 51 d1 { tm := d1s c r y g, H, nx } (.exit 0) { tm := d1s c r y (d1x r y g), H, nx := nx + 4 } :=
 ⟨5, 20, orc_code hk2 (p := [false]) (m := [true]) (l := [decide (r ≥ yearF y) == false]) (by kernel_rfl) (by kernel_rfl) (by kernel_rfl) (aC (by rw [h]; rfl) aN)⟩
noncomputable def d2 : Code := loopB Tryz.f51 1
def d2s (c r y m : Int) (g : Nat → Option Value) : T Value := lst 6 [(6, I c), (7, I r), (8, I y), (9, I m)] g
def d2g (r y m : Int) (g : Nat → Option Value) : Nat → Option Value :=
 upd [(32, I r), (33, I y), (34, I m), (35, I (lenF y m)), (36, .bool (decide (r ≥ lenF y m))), (37, I r), (38, I y), (39, I m), (40, I (lenF y m)), (41, I (IntKind.i64.wrap (r - lenF y m))), (42, I m), (43, I (IntKind.i64.wrap (m + 1)))] g
def d2x (r y m : Int) (g : Nat → Option Value) : Nat → Option Value := upd [(32, I r), (33, I y), (34, I m), (35, I (lenF y m)), (36, .bool (decide (r ≥ lenF y m)))] g
theorem d2_more (c r y m : Int) (g : Nat → Option Value) (H : Hp) (nx : Nat) (h : (decide (r ≥ lenF y m)) = true) :
  EvC cx2 51 d2 { tm := d2s c r y m g, H, nx } .normal { tm := d2s c (IntKind.i64.wrap (r - lenF y m)) y (IntKind.i64.wrap (m + 1)) (d2g r y m g), H, nx := nx + 14 } :=
 ⟨5, 20, orc_code hk2 (p := [true]) (m := [true]) (l := [decide (r ≥ lenF y m) == true]) (by kernel_rfl) (by kernel_rfl) (by kernel_rfl) (aC (by rw [h]; rfl) aN)⟩
theorem d2_exit (c r y m : Int) (g : Nat → Option Value) (H : Hp) (nx : Nat) (h : (decide (r ≥ lenF y m)) = false) :
  EvC cx2 51 d2 { tm := d2s c r y m g, H, nx } (.exit 2) { tm := d2s c r y m (d2x r y m g), H, nx := nx + 5 } :=
 ⟨5, 20, orc_code hk2 (p := [false]) (m := [true]) (l := [decide (r ≥ lenF y m) == false]) (by kernel_rfl) (by kernel_rfl) (by kernel_rfl) (aC (by rw [h]; rfl) aN)⟩
noncomputable def d0 : Code := unspine ((bodyOf Tryz.f51).take 5)
noncomputable def d3 : Code := unspine (((bodyOf Tryz.f51).drop 6).take 1)
noncomputable def d4 : Code := unspine ((bodyOf Tryz.f51).drop 8)
theorem yearF_two (y : Int) : yearF y = 365 ∨ yearF y = 366 := by unfold yearF; cases leapF y <;> simp
def aheadJ (y : Int) : Int := 365 * y + (y + 3) / 4 - (y + 99) / 100 + (y + 399) / 400
theorem leapF_iff (y : Int) (h : 0 ≤ y) : leapF y = true ↔ (y % 4 = 0 ∧ (y % 100 ≠ 0 ∨ y % 400 = 0)) := by
 unfold leapF
 rw [Int.tmod_eq_emod_of_nonneg h, Int.tmod_eq_emod_of_nonneg h, Int.tmod_eq_emod_of_nonneg h]
 simp
theorem aheadJ_succ (y : Int) (h : 0 ≤ y) : aheadJ (y + 1) = aheadJ y + yearF y := by
 have hi := leapF_iff y h
 unfold aheadJ yearF
 cases hl : leapF y with
 | true =>
  obtain ⟨h1, h2⟩ := hi.1 hl
  simp only [cond_true]
  omega
 | false =>
  have : ¬ (y % 4 = 0 ∧ (y % 100 ≠ 0 ∨ y % 400 = 0)) := fun q => by rw [hi.2 q] at hl; cases hl
  simp only [cond_false]
  omega
theorem d1_loop (H : Hp) : ∀ (N : Nat) (c r y : Int) (g : Nat → Option Value) (nx : Nat), 0 ≤ r → r < 365 * N → 0 ≤ y → y + N ≤ 100000 → r ≤ 200000 →
  ∃ g' k r' y', EvC cx2 51 (.loop d1) { tm := d1s c r y g, H, nx } (.exit 0) { tm := d1s c r' y' g', H, nx := nx + k } ∧ k ≤ 12 * N + 4 ∧ r' + aheadJ y' = r + aheadJ y ∧ 0 ≤ r' ∧ r' < yearF y' ∧ y ≤ y' ∧ y' ≤ y + N
 | 0, c, r, y, g, nx, h0, h1, h2, h3, h4 => by omega
 | N + 1, c, r, y, g, nx, h0, h1, h2, h3, h4 => by
  have hy := yearF_two y
  by_cases h : r ≥ yearF y
  ·have hm := d1_more c r y g H nx (by simp [h])
   rw [wrap_id (r - yearF y) (by omega) (by omega), wrap_id (y + 1) (by omega) (by omega)] at hm
   obtain ⟨g', k, r', y', e1, e2, e3, e4, e5, e6, e7⟩ := d1_loop H N c (r - yearF y) (y + 1) (d1g r y g) (nx + 12) (by omega) (by omega) (by omega) (by omega) (by omega)
   refine ⟨g', 12 + k, r', y', ?_, by omega, ?_, e4, e5, by omega, by omega⟩
   ·have := hm.loop_more e1
    rw [Nat.add_assoc] at this
    exact this
   ·rw [e3, aheadJ_succ y h2]; omega
  ·have hx := d1_exit c r y g H nx (by simp; omega)
   exact ⟨_, 4, r, y, hx.loop_out (by simp), by omega, rfl, h0, by omega, by omega, by omega⟩
def cumJ (y m : Int) : Int := (bif m == 0 then 0 else bif m == 1 then 31 else
 (bif m == 2 then 59 else bif m == 3 then 90 else bif m == 4 then 120 else bif m == 5 then 151 else bif m == 6 then 181 else bif m == 7 then 212 else bif m == 8 then 243 else bif m == 9 then 273 else bif m == 10 then 304 else bif m == 11 then 334 else 365) + (bif leapF y then 1 else 0))
theorem cumJ_succ (y m : Int) (h0 : 0 ≤ m) (h1 : m ≤ 11) : cumJ y (m + 1) = cumJ y m + lenF y m := by
 have h : m = 0 ∨ m = 1 ∨ m = 2 ∨ m = 3 ∨ m = 4 ∨ m = 5 ∨ m = 6 ∨ m = 7 ∨ m = 8 ∨ m = 9 ∨ m = 10 ∨ m = 11 := by omega
 rcases h with rfl | rfl | rfl | rfl | rfl | rfl | rfl | rfl | rfl | rfl | rfl | rfl <;> cases hl : leapF y <;> simp [cumJ, lenF, hl]
theorem lenF_pos (y m : Int) (h0 : 0 ≤ m) (h1 : m ≤ 11) : 28 ≤ lenF y m ∧ lenF y m ≤ 31 := by
 have h : m = 0 ∨ m = 1 ∨ m = 2 ∨ m = 3 ∨ m = 4 ∨ m = 5 ∨ m = 6 ∨ m = 7 ∨ m = 8 ∨ m = 9 ∨ m = 10 ∨ m = 11 := by omega
 rcases h with rfl | rfl | rfl | rfl | rfl | rfl | rfl | rfl | rfl | rfl | rfl | rfl <;> cases hl : leapF y <;> simp [lenF, hl]
theorem cumJ_12 (y : Int) : cumJ y 12 = yearF y := by cases hl : leapF y <;> simp [cumJ, yearF, hl]
theorem d2_loop (H : Hp) : ∀ (N : Nat) (c r y m : Int) (g : Nat → Option Value) (nx : Nat), 0 ≤ r → r + cumJ y m < yearF y → 0 ≤ m → m + N = 12 →
  ∃ g' k r' m', EvC cx2 51 (.loop d2) { tm := d2s c r y m g, H, nx } (.exit 2) { tm := d2s c r' y m' g', H, nx := nx + k } ∧ k ≤ 14 * N + 5 ∧ r' + cumJ y m' = r + cumJ y m ∧ 0 ≤ r' ∧ r' < lenF y m' ∧ m ≤ m' ∧ m' ≤ 11
 | 0, c, r, y, m, g, nx, h0, h1, h2, h3 => by
  have : m = 12 := by omega
  subst this
  rw [cumJ_12] at h1
  omega
 | N + 1, c, r, y, m, g, nx, h0, h1, h2, h3 => by
  have hl := lenF_pos y m h2 (by omega)
  have hy := yearF_two y
  have hs := cumJ_succ y m h2 (by omega)
  by_cases h : r ≥ lenF y m
  ·have hm := d2_more c r y m g H nx (by simp [h])
   have hc : 0 ≤ cumJ y m := by
    have hh : m = 0 ∨ m = 1 ∨ m = 2 ∨ m = 3 ∨ m = 4 ∨ m = 5 ∨ m = 6 ∨ m = 7 ∨ m = 8 ∨ m = 9 ∨ m = 10 ∨ m = 11 := by omega
    rcases hh with rfl | rfl | rfl | rfl | rfl | rfl | rfl | rfl | rfl | rfl | rfl | rfl <;> cases hl : leapF y <;> simp [cumJ, hl]
   rw [wrap_id (r - lenF y m) (by omega) (by omega), wrap_id (m + 1) (by omega) (by omega)] at hm
   obtain ⟨g', k, r', m', e1, e2, e3, e4, e5, e6, e7⟩ := d2_loop H N c (r - lenF y m) y (m + 1) (d2g r y m g) (nx + 14) (by omega) (by omega) (by omega) (by omega)
   refine ⟨g', 14 + k, r', m', ?_, by omega, by omega, e4, e5, by omega, e7⟩
   have := hm.loop_more e1
   rw [Nat.add_assoc] at this
   exact this
  ·have hx := d2_exit c r y m g H nx (by simp; omega)
   exact ⟨_, 5, r, m, hx.loop_out (by simp), by omega, rfl, h0, by omega, by omega, by omega⟩
def wF (n : Int) : Int := IntKind.i64.wrap (n + 719528)
def cF (n : Int) : Int := IntKind.i64.wrap (wF n / 146097)
def d0g (n : Int) : Nat → Option Value := upd [(0, I n), (2, I 0), (3, I 0), (4, I 0), (5, I 0), (10, I n), (11, .bool (decide (n < -4371587))), (12, .bool (decide (n < -4371587))), (13, I n), (14, .bool (decide (n > 2932896))), (15, .bool (decide (n > 2932896))),
 (16, .tuple #[I (cF n), I (wF n % 146097)]), (17, I n), (18, I (wF n)), (19, .tuple #[I (cF n), I (wF n % 146097)]), (20, I (cF n)), (21, I (wF n % 146097))] (fun _ => none)
theorem date_pre (n : Int) (H : Hp) (nx : Nat) (h1 : (decide (n < -4371587)) = false) (h2 : (decide (n > 2932896)) = false) :
  EvC cx2 51 d0 { tm := T.setList (T.room 6) 0 [I n], H, nx } .normal { tm := d1s (cF n) (wF n % 146097) 0 (d0g n), H, nx := nx + 19 } :=
 ⟨5, 20, orc_code hk2 (p := [false, false, false, false]) (m := [true, true, true, true]) (l := [decide (n < -4371587) == false, decide (n < -4371587) == false, decide (n < -4371587) == false, decide (n > 2932896) == false]) (by kernel_rfl) (by kernel_rfl) (by kernel_rfl)
  (C3 (by rw [h1]; rfl) (aC (by rw [h2]; rfl) aN))⟩
theorem date_mid (c r y : Int) (g : Nat → Option Value) (H : Hp) (nx : Nat) :
  EvC cx2 51 d3 { tm := d1s c r y g, H, nx } .normal { tm := d2s c r y 0 g, H, nx := nx + 1 } :=
 ⟨5, 20, orc_code hk2 (p := []) (m := []) (l := []) (by kernel_rfl) (by kernel_rfl) (by kernel_rfl) aN⟩
def d4t (c r y m : Int) (g : Nat → Option Value) : T Value := lst 6 [(6, I c), (7, I r), (8, I y), (9, I m), (2, I (IntKind.i64.wrap (IntKind.i64.wrap (400 * c) + y))), (3, I m), (4, I (IntKind.i64.wrap (r + 1))), (5, I 0),
 (44, I c), (45, I (IntKind.i64.wrap (400 * c))), (46, I y), (47, I (IntKind.i64.wrap (IntKind.i64.wrap (400 * c) + y))), (48, I m), (49, I r), (50, I (IntKind.i64.wrap (r + 1)))] g
theorem date_end (c r y m : Int) (g : Nat → Option Value) (H : Hp) (nx : Nat) :
  EvC cx2 51 d4 { tm := d2s c r y m g, H, nx } .ret { tm := d4t c r y m g, H, nx := nx + 11 } :=
 ⟨5, 20, orc_code hk2 (p := []) (m := []) (l := []) (by kernel_rfl) (by kernel_rfl) (by kernel_rfl) aN⟩
theorem date_pieces : bodyOf Tryz.f51 = (bodyOf Tryz.f51).take 5 ++ ([.block 0 (.loop d1)] ++ (((bodyOf Tryz.f51).drop 6).take 1 ++ ([.block 2 (.loop d2)] ++ (bodyOf Tryz.f51).drop 8))) := by kernel_rfl
theorem EvL.one {nt : Nat} {c : Code} {s s' : St} {cx : Cx} (h : EvC cx nt c s .normal s') : EvL cx nt [c] s .normal s' := .step h (.nil _)
noncomputable def code51 : Code := match Tryz.f51.body with
 | some c => c
 | none => .skip
theorem date_ev (n : Int) (H : Hp) (nx : Nat) (h1 : -4371587 ≤ n) (h2 : n ≤ 2932896) :
  ∃ k y m r, EvF cx2 51 #[I n] H nx (.tuple #[I (400 * ((n + 719528) / 146097) + y), I m, I (r + 1), I 0]) H (nx + k) ∧ k ≤ 40000 ∧
   0 ≤ y ∧ y ≤ 401 ∧ 0 ≤ m ∧ m ≤ 11 ∧ 0 ≤ r ∧ r < lenF y m ∧ r + cumJ y m + aheadJ y = (n + 719528) % 146097 ∧ r + cumJ y m < yearF y := by
 have hw : wF n = n + 719528 := wrap_id _ (by omega) (by omega)
 have hc : cF n = (n + 719528) / 146097 := by unfold cF; rw [hw]; exact wrap_id _ (by omega) (by omega)
 have p0 := date_pre n H nx (by simp; omega) (by simp; omega)
 rw [hc, hw] at p0
 obtain ⟨g1, k1, r1, y1, e1, q1, q2, q3, q4, q5, q6⟩ := d1_loop H 401 ((n + 719528) / 146097) ((n + 719528) % 146097) 0 (d0g n) (nx + 19) (by omega) (by omega) (by omega) (by omega) (by omega)
 have p3 := date_mid ((n + 719528) / 146097) r1 y1 g1 H (nx + 19 + k1)
 have ha0 : aheadJ 0 = 0 := by decide
 have hc0 : cumJ y1 0 = 0 := by simp [cumJ]
 obtain ⟨g2, k2, r2, m2, e2, t1, t2, t3, t4, t5, t6⟩ := d2_loop H 12 ((n + 719528) / 146097) r1 y1 0 g1 (nx + 19 + k1 + 1) q3 (by omega) (by omega) (by omega)
 have p4 := date_end ((n + 719528) / 146097) r2 y1 m2 g2 H (nx + 19 + k1 + 1 + k2)
 have hl := lenF_pos y1 m2 t5 t6
 have hy := yearF_two y1
 refine ⟨19 + k1 + 1 + k2 + 11, y1, m2, r2, ?_, by omega, q5, by omega, t5, t6, t3, t4, by omega, by omega⟩
 have hcode : EvC cx2 51 code51 { tm := T.setList (T.room 6) 0 [I n], H, nx } .ret { tm := d4t ((n + 719528) / 146097) r2 y1 m2 g2, H, nx := nx + 19 + k1 + 1 + k2 + 11 } := by
  refine EvC.of_spine code51 ?_
  show EvL cx2 51 (bodyOf Tryz.f51) _ _ _
  rw [date_pieces]
  exact (EvL.of_unspine _ p0).append ((EvL.one e1.block_exit).append ((EvL.of_unspine _ p3).append ((EvL.one e2.block_exit).append (EvL.of_unspine _ p4))))
 have hF := EvF.of_code' (cx := cx2) (f := 51) (fn := Tryz.f51) (c := code51) (args := #[I n]) (H := H) (nx := nx) (nt := 51) (tm := T.setList (T.room 6) 0 [I n]) (e := .ret) (l := [I (IntKind.i64.wrap (IntKind.i64.wrap (400 * ((n + 719528) / 146097)) + y1)), I m2, I (IntKind.i64.wrap (r2 + 1)), I 0])
  (by kernel_rfl) (by kernel_rfl) (by kernel_rfl) (by kernel_rfl) (by kernel_rfl) hcode (fun k h => by cases h) (by kernel_rfl)
 rw [wrap_id (400 * _) (by omega) (by omega), wrap_id (_ + y1) (by omega) (by omega), wrap_id (r2 + 1) (by omega) (by omega)] at hF
 have hn : nx + 19 + k1 + 1 + k2 + 11 = nx + (19 + k1 + 1 + k2 + 11) := by omega
 rw [hn] at hF
 exact hF
theorem date_out_p0 (n : Int) (H : Hp) (nx : Nat) (h1 : ((decide (n < ((-4371587 : Int)))) == true) = true) : evFunc cx2 30 51 #[.int .i64 n] H nx = some ((Value.tuple #[(Value.int IntKind.i64 0), (Value.int IntKind.i64 0), (Value.int IntKind.i64 0), (Value.int IntKind.i64 110)]), H, nx + 12) :=
 orc_sel_run (hk2) (m := [true, true, true]) (l := [(decide (n < ((-4371587 : Int)))) == true, (decide (n < ((-4371587 : Int)))) == true, (decide (n < ((-4371587 : Int)))) == true]) (p := [true, true, true, true]) (by kernel_rfl) (by kernel_rfl) (by kernel_rfl) (C3 h1 aN)
theorem date_out_p1 (n : Int) (H : Hp) (nx : Nat) (h1 : ((decide (n < ((-4371587 : Int)))) == false) = true) (h2 : ((decide (n > 2932896)) == true) = true) : evFunc cx2 30 51 #[.int .i64 n] H nx = some ((Value.tuple #[(Value.int IntKind.i64 0), (Value.int IntKind.i64 0), (Value.int IntKind.i64 0), (Value.int IntKind.i64 110)]), H, nx + 14) :=
 orc_sel_run (hk2) (m := [true, true, true, true]) (l := [(decide (n < ((-4371587 : Int)))) == false, (decide (n < ((-4371587 : Int)))) == false, (decide (n < ((-4371587 : Int)))) == false, (decide (n > 2932896)) == true]) (p := [false, false, false, true]) (by kernel_rfl) (by kernel_rfl) (by kernel_rfl) (C3 h1 (aC h2 aN))
def inF (n : Int) : Bool := decide (-4371587 ≤ n) && decide (n ≤ 2932896)
def ryF (n : Int) : Int := bif inF n then Clk.dateYear n else 0
def rmF (n : Int) : Int := bif inF n then Clk.dateMonth n else 0
def rdF (n : Int) : Int := bif inF n then Clk.dateDay n else 0
def reF (n : Int) : Int := bif inF n then 0 else 110
def dateP (args : Array Value) : Option Value := match args.toList with
 | [.int .i64 n] => some (.tuple #[.int .i64 (ryF n), .int .i64 (rmF n), .int .i64 (rdF n), .int .i64 (reF n)])
 | _ => none
theorem leap_L (y : Int) (h : 0 ≤ y) : ((bif leapF y then (1 : Int) else 0) = 1 ∧ y % 4 = 0 ∧ (y % 100 ≠ 0 ∨ y % 400 = 0)) ∨ ((bif leapF y then (1 : Int) else 0) = 0 ∧ ¬ (y % 4 = 0 ∧ (y % 100 ≠ 0 ∨ y % 400 = 0))) := by
 have hi := leapF_iff y h
 cases hl : leapF y with
 | true => exact .inl ⟨rfl, hi.1 hl⟩
 | false => exact .inr ⟨rfl, fun q => by rw [hi.2 q] at hl; cases hl⟩
theorem cumJ_cum (y m : Int) (h0 : 0 ≤ m) (h1 : m ≤ 11) : cumJ y m = Clk.cum (bif leapF y then 1 else 0) m ∧ lenF y m = Clk.len (bif leapF y then 1 else 0) m := by
 have h : m = 0 ∨ m = 1 ∨ m = 2 ∨ m = 3 ∨ m = 4 ∨ m = 5 ∨ m = 6 ∨ m = 7 ∨ m = 8 ∨ m = 9 ∨ m = 10 ∨ m = 11 := by omega
 rcases h with rfl | rfl | rfl | rfl | rfl | rfl | rfl | rfl | rfl | rfl | rfl | rfl <;> cases hl : leapF y <;> simp [cumJ, lenF, Clk.cum, Clk.len, hl]
theorem aheadJ_400 (y : Int) (h0 : 400 ≤ y) : 146097 ≤ aheadJ y := by unfold aheadJ; omega
theorem cumJ_nonneg (y m : Int) (h0 : 0 ≤ m) (h1 : m ≤ 11) : 0 ≤ cumJ y m := by
 have h : m = 0 ∨ m = 1 ∨ m = 2 ∨ m = 3 ∨ m = 4 ∨ m = 5 ∨ m = 6 ∨ m = 7 ∨ m = 8 ∨ m = 9 ∨ m = 10 ∨ m = 11 := by omega
 rcases h with rfl | rfl | rfl | rfl | rfl | rfl | rfl | rfl | rfl | rfl | rfl | rfl <;> cases hl : leapF y <;> simp [cumJ, hl]
theorem date_in (n : Int) (H : Hp) (nx : Nat) (h1 : -4371587 ≤ n) (h2 : n ≤ 2932896) : ∃ k, EvF cx2 51 #[I n] H nx (.tuple #[I (Clk.dateYear n), I (Clk.dateMonth n), I (Clk.dateDay n), I 0]) H (nx + k) ∧ k ≤ 40000 := by
 obtain ⟨k, y, m, r, e, hk, y0, y1, m0, m1, r0, r1, hs, ht⟩ := date_ev n H nx h1 h2
 obtain ⟨q1, q2⟩ := cumJ_cum y m m0 m1
 have hc0 := cumJ_nonneg y m m0 m1
 have hy : y ≤ 399 := by
  rcases Int.lt_or_le y 400 with q | q
  ·omega
  ·have := aheadJ_400 y q; omega
 have hd := Clk.date_of n ((n + 719528) / 146097) y m r (bif leapF y then 1 else 0) (leap_L y y0) y0 hy m0 m1 r0 (by rw [← q2]; exact r1) (by rw [← q1]; unfold aheadJ at hs; omega)
 obtain ⟨d1, d2, d3⟩ := hd
 rw [← d1, ← d2, ← d3] at e
 exact ⟨k, e, hk⟩
def rdateE : PFn := { f := 51, c := 40000, p := dateP }
theorem rdate_sound : PSound cx0 rdateE := psound_of_ev (cx_ok _) cx2_intr fun args v h H nx => by
 replace h : dateP args = some v := h
 unfold dateP at h
 split at h
 ·rename_i n hx
  have ha := args_one hx
  subst ha
  cases h
  by_cases h1 : -4371587 ≤ n
  ·by_cases h2 : n ≤ 2932896
   ·obtain ⟨k, ⟨N, e⟩, hk⟩ := date_in n H nx h1 h2
    have hi : inF n = true := by simp [inF, h1, h2]
    refine ⟨N, k, ?_, hk⟩
    unfold ryF rmF rdF reF
    rw [hi]
    exact e
   ·have hi : inF n = false := by simp [inF]; omega
    refine ⟨30, 14, ?_, by decide⟩
    unfold ryF rmF rdF reF
    rw [hi]
    exact date_out_p1 n H nx (by simp; omega) (by simp; omega)
  ·have hi : inF n = false := by simp [inF]; omega
   refine ⟨30, 12, ?_, by decide⟩
   unfold ryF rmF rdF reF
   rw [hi]
   exact date_out_p0 n H nx (by simp; omega)
 ·cases h
end Go.Proofs.YthopphfehgdocaaGreatDoor
