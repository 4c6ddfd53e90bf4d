import Derived.Test.YthopphfehgdocaaGreatDoorOrd2
import Derived.Test.YthopphfehgdocaaGreatDoorStart
namespace Go.Proofs.YthopphfehgdocaaGreatDoor
open Go Go.RowKit Go.Ev Go.Proofs Go.Shelf
set_option linter.unusedSimpArgs false
set_option linter.unusedVariables false
def by8 (c : UInt8) : UInt8 := UInt8.ofNat (Int.toNat ((c.toNat : Nat) : Int))
theorem by8_eq (c : UInt8) : by8 c = c := by unfold by8; simp

def isoKF (Y M D ho mi : Int) (S : Nat) : Bool := isTF Y M D ho mi S && it4F Y
def isoK (args : Array Value) : Bool := match args.toList with
  | [.agg a, .string f] => match a.toList with
    | [.int .i64 Y, .int .i64 M, .int .i64 D, .int .i64 ho, .int .i64 mi, .float .f64 S, .int .i64 W, .int .i64 J] => isoKF Y M D ho mi S == true
    | _ => false
  | _ => false
def headsP (args : Array Value) : Option Value := match args.toList with
  | [] => some (.bool true)
  | _ => none
def headsE : PFn := { f := 12, c := 0, p := headsP }
theorem heads_sound : PSound cx0 headsE := fun i => pureI_sound (cx := cx0) fun args args' v B w E hW hB har hp => by
  have hp' : headsP args = some v := hp
  unfold headsP at hp'
  split at hp'
  · rename_i hx
    cases hp'
    obtain ⟨h11, a, ha, hk⟩ := hW
    have e : args' = #[] := by
      have := har.1
      have h0 : args.size = 0 := by have := congrArg List.length hx; simpa using this
      exact Array.eq_empty_of_size_eq_zero (by omega)
    subst e
    refine (heads_true hk).mono ?_
    rintro e w' ⟨rfl, hb⟩
    exact ⟨rfl, rfl, hb⟩
  · cases hp'
def sYF (x : Nat) : Int := Clk.dateYear (f2i .f64 x / 86400)
def sMF (x : Nat) : Int := Clk.dateMonth (f2i .f64 x / 86400)
def sDF (x : Nat) : Int := Clk.dateDay (f2i .f64 x / 86400)
def shF (x : Nat) : Int := f2i .f64 x % 86400 / 3600
def siF (x : Nat) : Int := f2i .f64 x % 3600 / 60
def sSF (x : Nat) : Nat := Clk.fo (f2i .f64 x % 60)
def sWF (x : Nat) : Int := wdF (f2i .f64 x / 86400)
def sJF (x : Nat) : Int := f2i .f64 x / 86400 - Clk.number (Clk.dateYear (f2i .f64 x / 86400)) 0 1
def rsp3V (args : Array Value) : Option Value := match args.toList with
  | [.float .f64 x] => some (.tuple #[.agg #[.int .i64 (sYF x), .int .i64 (sMF x), .int .i64 (sDF x), .int .i64 (shF x), .int .i64 (siF x), .float .f64 (sSF x), .int .i64 (sWF x), .int .i64 (sJF x)], .int .i64 0])
  | _ => none
theorem rsp3_eq : rsp3V = rsp2V := rfl
def csp3A : AFn := { f := 16, val := rsp3V, ok := rsp2K }
theorem csp3_sound : PSound cx0 csp3A.pfn := by
  have : csp3A = csp2A := by unfold csp3A csp2A; rw [rsp3_eq]
  rw [this]; exact csp2_sound
def lpQ : List PFn := [headsE]
theorem lpQ_sound : ∀ e ∈ lpQ, PSound cx0 e := psound_cons heads_sound psound_nil
end Go.Proofs.YthopphfehgdocaaGreatDoor
