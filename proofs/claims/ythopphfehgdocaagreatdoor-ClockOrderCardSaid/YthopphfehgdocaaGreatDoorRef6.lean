import Derived.Test.YthopphfehgdocaaGreatDoorRef4
import Derived.Test.YthopphfehgdocaaGreatDoorRef5
import Derived.Test.YthopphfehgdocaaGreatDoorRef3
namespace Go.Proofs.YthopphfehgdocaaGreatDoor
open Go Go.RowKit Go.Ev Go.Proofs Go.Shelf
set_option linter.unusedSimpArgs false
set_option linter.unusedVariables false
/-- so many copies of a text -/
def repF (s : ByteArray) (c : Int) : ByteArray := ⟨(Lib.repeatL s.data.toList c.toNat).toArray⟩
def repOkF (s : ByteArray) (c : Int) : Bool := decide (0 ≤ c) && (decide (c ≤ 1000) && decide (s.size ≤ 1000))
def repV (args : Array Value) : Option Value := match args.toList with
  | [.string s, .int .i64 c] => some (.string (repF s c))
  | _ => none
def repK (args : Array Value) : Bool := match args.toList with
  | [.string s, .int .i64 c] => (repOkF s c == true)
  | _ => false
def repA : AFn := { f := 169, val := repV, ok := repK }
theorem rep_sound : PSound cx0 repA.pfn := fun i => pureI_sound fun args args' v B w E hW hB har h => by
  obtain ⟨hv, hk⟩ := afn_some h
  replace hv : repV args = some v := hv
  replace hk : repK args = true := hk
  unfold repV at hv
  split at hv
  · rename_i s c hx
    have ha := args_list hx
    subst ha
    cases hv
    have hn : repOkF s c = true := by simpa [repK] using hk
    unfold repOkF at hn
    simp only [Bool.and_eq_true, decide_eq_true_eq] at hn
    have he : args' = #[.string s, .int .i64 c] := by
      refine Array.ext har.1.symm fun k h1 h2 => ?_
      have p : (#[Value.string s, .int .i64 c])[k]? = some (#[Value.string s, .int .i64 c])[k] := Array.getElem?_eq_getElem h2
      have q : args'[k]? = some args'[k] := Array.getElem?_eq_getElem h1
      refine (har.2 k _ _ p q).shut_eq 60 (closed_all (a := #[Value.string s, .int .i64 c]) rfl k _ p)
    subst he
    have hm : s.size * c.toNat ≤ 1000 * 1000 := Nat.mul_le_mul hn.2.2 (by omega)
    have hc : c = ((c.toNat : Nat) : Int) := by omega
    have e := Tryz.strings_Repeat s c.toNat w (by omega) (by omega)
    rw [← hc] at e
    refine e.mono ?_
    rintro e w' ⟨rfl, hb⟩
    exact ⟨rfl, rfl, hb⟩
  · cases hv
/-- with the texts of numbers -/
def laS : List AFn := [repA, itoaA]
theorem laS_sound : ∀ e ∈ laS, PSound cx0 e.pfn := asound_cons rep_sound (asound_cons itoa_sound asound_nil)
end Go.Proofs.YthopphfehgdocaaGreatDoor
namespace Go.Proofs.YthopphfehgdocaaGreatDoor
open Go Go.RowKit Go.Ev Go.Proofs Go.Shelf
set_option linter.unusedSimpArgs false
set_option linter.unusedVariables false

theorem ctwo_p0 (n : Int) (H : Hp) (nx : Nat) (h1 : ((decide (n < 0)) == false) = true) (h2 : ((Go.Proofs.YthopphfehgdocaaGreatDoor.i64F n) == true) = true) (h3 : ((Go.Proofs.YthopphfehgdocaaGreatDoor.repOkF (ByteArray.mk (List.toArray [48])) (if ((Go.IntKind.wrap Go.IntKind.i64 (2 - ((((ByteArray.size (Go.Proofs.YthopphfehgdocaaGreatDoor.itoaF n)) : Nat) : Int)))) > 0) then (Go.IntKind.wrap Go.IntKind.i64 (2 - ((((ByteArray.size (Go.Proofs.YthopphfehgdocaaGreatDoor.itoaF n)) : Nat) : Int)))) else 0)) == true) = true) (h4 : (decide ((((((ByteArray.size (ByteArray.mk #[])) + (ByteArray.size (Go.Proofs.YthopphfehgdocaaGreatDoor.repF (ByteArray.mk #[48]) (if ((Go.IntKind.wrap Go.IntKind.i64 (2 - ((((ByteArray.size (Go.Proofs.YthopphfehgdocaaGreatDoor.itoaF n)) : Nat) : Int)))) > 0) then (Go.IntKind.wrap Go.IntKind.i64 (2 - ((((ByteArray.size (Go.Proofs.YthopphfehgdocaaGreatDoor.itoaF n)) : Nat) : Int)))) else 0)))) : Nat) : Int)) ≤ (Int.ofNat (9223372036854775808 - 1)))) = true) (h5 : (decide ((((((ByteArray.size ((ByteArray.mk #[]) ++ (Go.Proofs.YthopphfehgdocaaGreatDoor.repF (ByteArray.mk #[48]) (if ((Go.IntKind.wrap Go.IntKind.i64 (2 - ((((ByteArray.size (Go.Proofs.YthopphfehgdocaaGreatDoor.itoaF n)) : Nat) : Int)))) > 0) then (Go.IntKind.wrap Go.IntKind.i64 (2 - ((((ByteArray.size (Go.Proofs.YthopphfehgdocaaGreatDoor.itoaF n)) : Nat) : Int)))) else 0)))) + (ByteArray.size (Go.Proofs.YthopphfehgdocaaGreatDoor.itoaF n))) : Nat) : Int)) ≤ (Int.ofNat (9223372036854775808 - 1)))) = true) : evFunc (withFns cx0 laS lpE) 30 96 #[.int .i64 n] H nx = some ((Go.Value.string (((ByteArray.mk #[]) ++ (Go.Proofs.YthopphfehgdocaaGreatDoor.repF (ByteArray.mk #[48]) (if ((Go.IntKind.wrap Go.IntKind.i64 (2 - ((((ByteArray.size (Go.Proofs.YthopphfehgdocaaGreatDoor.itoaF n)) : Nat) : Int)))) > 0) then (Go.IntKind.wrap Go.IntKind.i64 (2 - ((((ByteArray.size (Go.Proofs.YthopphfehgdocaaGreatDoor.itoaF n)) : Nat) : Int)))) else 0))) ++ (Go.Proofs.YthopphfehgdocaaGreatDoor.itoaF n))), H, nx + 23) :=
  orc_sel_run ((hkW laS lpE)) (m := [true, true, true, true, true]) (l := [((decide (n < 0)) == false), ((Go.Proofs.YthopphfehgdocaaGreatDoor.i64F n) == true), ((Go.Proofs.YthopphfehgdocaaGreatDoor.repOkF (ByteArray.mk (List.toArray [48])) (if ((Go.IntKind.wrap Go.IntKind.i64 (2 - ((((ByteArray.size (Go.Proofs.YthopphfehgdocaaGreatDoor.itoaF n)) : Nat) : Int)))) > 0) then (Go.IntKind.wrap Go.IntKind.i64 (2 - ((((ByteArray.size (Go.Proofs.YthopphfehgdocaaGreatDoor.itoaF n)) : Nat) : Int)))) else 0)) == true), (decide ((((((ByteArray.size (ByteArray.mk #[])) + (ByteArray.size (Go.Proofs.YthopphfehgdocaaGreatDoor.repF (ByteArray.mk #[48]) (if ((Go.IntKind.wrap Go.IntKind.i64 (2 - ((((ByteArray.size (Go.Proofs.YthopphfehgdocaaGreatDoor.itoaF n)) : Nat) : Int)))) > 0) then (Go.IntKind.wrap Go.IntKind.i64 (2 - ((((ByteArray.size (Go.Proofs.YthopphfehgdocaaGreatDoor.itoaF n)) : Nat) : Int)))) else 0)))) : Nat) : Int)) ≤ (Int.ofNat (9223372036854775808 - 1)))), (decide ((((((ByteArray.size ((ByteArray.mk #[]) ++ (Go.Proofs.YthopphfehgdocaaGreatDoor.repF (ByteArray.mk #[48]) (if ((Go.IntKind.wrap Go.IntKind.i64 (2 - ((((ByteArray.size (Go.Proofs.YthopphfehgdocaaGreatDoor.itoaF n)) : Nat) : Int)))) > 0) then (Go.IntKind.wrap Go.IntKind.i64 (2 - ((((ByteArray.size (Go.Proofs.YthopphfehgdocaaGreatDoor.itoaF n)) : Nat) : Int)))) else 0)))) + (ByteArray.size (Go.Proofs.YthopphfehgdocaaGreatDoor.itoaF n))) : Nat) : Int)) ≤ (Int.ofNat (9223372036854775808 - 1))))]) (p := [false]) (by kernel_rfl) (by kernel_rfl) (by kernel_rfl) (forall_cons h1 (forall_cons h2 (forall_cons h3 (forall_cons h4 (forall_cons h5 forall_nil)))))
theorem ctwo_p1 (n : Int) (H : Hp) (nx : Nat) (h1 : ((decide (n < 0)) == true) = true) (h2 : ((Go.Proofs.YthopphfehgdocaaGreatDoor.i64F (Go.IntKind.wrap Go.IntKind.i64 (0 - n))) == true) = true) (h3 : ((Go.Proofs.YthopphfehgdocaaGreatDoor.repOkF (ByteArray.mk (List.toArray [48])) (if ((Go.IntKind.wrap Go.IntKind.i64 (2 - ((((ByteArray.size (Go.Proofs.YthopphfehgdocaaGreatDoor.itoaF (Go.IntKind.wrap Go.IntKind.i64 (0 - n)))) : Nat) : Int)))) > 0) then (Go.IntKind.wrap Go.IntKind.i64 (2 - ((((ByteArray.size (Go.Proofs.YthopphfehgdocaaGreatDoor.itoaF (Go.IntKind.wrap Go.IntKind.i64 (0 - n)))) : Nat) : Int)))) else 0)) == true) = true) (h4 : (decide ((((((ByteArray.size (ByteArray.mk #[45])) + (ByteArray.size (Go.Proofs.YthopphfehgdocaaGreatDoor.repF (ByteArray.mk #[48]) (if ((Go.IntKind.wrap Go.IntKind.i64 (2 - ((((ByteArray.size (Go.Proofs.YthopphfehgdocaaGreatDoor.itoaF (Go.IntKind.wrap Go.IntKind.i64 (0 - n)))) : Nat) : Int)))) > 0) then (Go.IntKind.wrap Go.IntKind.i64 (2 - ((((ByteArray.size (Go.Proofs.YthopphfehgdocaaGreatDoor.itoaF (Go.IntKind.wrap Go.IntKind.i64 (0 - n)))) : Nat) : Int)))) else 0)))) : Nat) : Int)) ≤ (Int.ofNat (9223372036854775808 - 1)))) = true) (h5 : (decide ((((((ByteArray.size ((ByteArray.mk #[45]) ++ (Go.Proofs.YthopphfehgdocaaGreatDoor.repF (ByteArray.mk #[48]) (if ((Go.IntKind.wrap Go.IntKind.i64 (2 - ((((ByteArray.size (Go.Proofs.YthopphfehgdocaaGreatDoor.itoaF (Go.IntKind.wrap Go.IntKind.i64 (0 - n)))) : Nat) : Int)))) > 0) then (Go.IntKind.wrap Go.IntKind.i64 (2 - ((((ByteArray.size (Go.Proofs.YthopphfehgdocaaGreatDoor.itoaF (Go.IntKind.wrap Go.IntKind.i64 (0 - n)))) : Nat) : Int)))) else 0)))) + (ByteArray.size (Go.Proofs.YthopphfehgdocaaGreatDoor.itoaF (Go.IntKind.wrap Go.IntKind.i64 (0 - n))))) : Nat) : Int)) ≤ (Int.ofNat (9223372036854775808 - 1)))) = true) : evFunc (withFns cx0 laS lpE) 30 96 #[.int .i64 n] H nx = some ((Go.Value.string (((ByteArray.mk #[45]) ++ (Go.Proofs.YthopphfehgdocaaGreatDoor.repF (ByteArray.mk #[48]) (if ((Go.IntKind.wrap Go.IntKind.i64 (2 - ((((ByteArray.size (Go.Proofs.YthopphfehgdocaaGreatDoor.itoaF (Go.IntKind.wrap Go.IntKind.i64 (0 - n)))) : Nat) : Int)))) > 0) then (Go.IntKind.wrap Go.IntKind.i64 (2 - ((((ByteArray.size (Go.Proofs.YthopphfehgdocaaGreatDoor.itoaF (Go.IntKind.wrap Go.IntKind.i64 (0 - n)))) : Nat) : Int)))) else 0))) ++ (Go.Proofs.YthopphfehgdocaaGreatDoor.itoaF (Go.IntKind.wrap Go.IntKind.i64 (0 - n))))), H, nx + 27) :=
  orc_sel_run ((hkW laS lpE)) (m := [true, true, true, true, true]) (l := [((decide (n < 0)) == true), ((Go.Proofs.YthopphfehgdocaaGreatDoor.i64F (Go.IntKind.wrap Go.IntKind.i64 (0 - n))) == true), ((Go.Proofs.YthopphfehgdocaaGreatDoor.repOkF (ByteArray.mk (List.toArray [48])) (if ((Go.IntKind.wrap Go.IntKind.i64 (2 - ((((ByteArray.size (Go.Proofs.YthopphfehgdocaaGreatDoor.itoaF (Go.IntKind.wrap Go.IntKind.i64 (0 - n)))) : Nat) : Int)))) > 0) then (Go.IntKind.wrap Go.IntKind.i64 (2 - ((((ByteArray.size (Go.Proofs.YthopphfehgdocaaGreatDoor.itoaF (Go.IntKind.wrap Go.IntKind.i64 (0 - n)))) : Nat) : Int)))) else 0)) == true), (decide ((((((ByteArray.size (ByteArray.mk #[45])) + (ByteArray.size (Go.Proofs.YthopphfehgdocaaGreatDoor.repF (ByteArray.mk #[48]) (if ((Go.IntKind.wrap Go.IntKind.i64 (2 - ((((ByteArray.size (Go.Proofs.YthopphfehgdocaaGreatDoor.itoaF (Go.IntKind.wrap Go.IntKind.i64 (0 - n)))) : Nat) : Int)))) > 0) then (Go.IntKind.wrap Go.IntKind.i64 (2 - ((((ByteArray.size (Go.Proofs.YthopphfehgdocaaGreatDoor.itoaF (Go.IntKind.wrap Go.IntKind.i64 (0 - n)))) : Nat) : Int)))) else 0)))) : Nat) : Int)) ≤ (Int.ofNat (9223372036854775808 - 1)))), (decide ((((((ByteArray.size ((ByteArray.mk #[45]) ++ (Go.Proofs.YthopphfehgdocaaGreatDoor.repF (ByteArray.mk #[48]) (if ((Go.IntKind.wrap Go.IntKind.i64 (2 - ((((ByteArray.size (Go.Proofs.YthopphfehgdocaaGreatDoor.itoaF (Go.IntKind.wrap Go.IntKind.i64 (0 - n)))) : Nat) : Int)))) > 0) then (Go.IntKind.wrap Go.IntKind.i64 (2 - ((((ByteArray.size (Go.Proofs.YthopphfehgdocaaGreatDoor.itoaF (Go.IntKind.wrap Go.IntKind.i64 (0 - n)))) : Nat) : Int)))) else 0)))) + (ByteArray.size (Go.Proofs.YthopphfehgdocaaGreatDoor.itoaF (Go.IntKind.wrap Go.IntKind.i64 (0 - n))))) : Nat) : Int)) ≤ (Int.ofNat (9223372036854775808 - 1))))]) (p := [true]) (by kernel_rfl) (by kernel_rfl) (by kernel_rfl) (forall_cons h1 (forall_cons h2 (forall_cons h3 (forall_cons h4 (forall_cons h5 forall_nil)))))
def ctwo0F (n : Int) : ByteArray := (bif (decide (n < 0)) then (((ByteArray.mk #[45]) ++ (Go.Proofs.YthopphfehgdocaaGreatDoor.repF (ByteArray.mk #[48]) (if ((Go.IntKind.wrap Go.IntKind.i64 (2 - ((((ByteArray.size (Go.Proofs.YthopphfehgdocaaGreatDoor.itoaF (Go.IntKind.wrap Go.IntKind.i64 (0 - n)))) : Nat) : Int)))) > 0) then (Go.IntKind.wrap Go.IntKind.i64 (2 - ((((ByteArray.size (Go.Proofs.YthopphfehgdocaaGreatDoor.itoaF (Go.IntKind.wrap Go.IntKind.i64 (0 - n)))) : Nat) : Int)))) else 0))) ++ (Go.Proofs.YthopphfehgdocaaGreatDoor.itoaF (Go.IntKind.wrap Go.IntKind.i64 (0 - n)))) else (((ByteArray.mk #[]) ++ (Go.Proofs.YthopphfehgdocaaGreatDoor.repF (ByteArray.mk #[48]) (if ((Go.IntKind.wrap Go.IntKind.i64 (2 - ((((ByteArray.size (Go.Proofs.YthopphfehgdocaaGreatDoor.itoaF n)) : Nat) : Int)))) > 0) then (Go.IntKind.wrap Go.IntKind.i64 (2 - ((((ByteArray.size (Go.Proofs.YthopphfehgdocaaGreatDoor.itoaF n)) : Nat) : Int)))) else 0))) ++ (Go.Proofs.YthopphfehgdocaaGreatDoor.itoaF n)))
def ctwoOkF (n : Int) : Bool := (bif (decide (n < 0)) then (((Go.Proofs.YthopphfehgdocaaGreatDoor.i64F (Go.IntKind.wrap Go.IntKind.i64 (0 - n)))) && (((Go.Proofs.YthopphfehgdocaaGreatDoor.repOkF (ByteArray.mk (List.toArray [48])) (if ((Go.IntKind.wrap Go.IntKind.i64 (2 - ((((ByteArray.size (Go.Proofs.YthopphfehgdocaaGreatDoor.itoaF (Go.IntKind.wrap Go.IntKind.i64 (0 - n)))) : Nat) : Int)))) > 0) then (Go.IntKind.wrap Go.IntKind.i64 (2 - ((((ByteArray.size (Go.Proofs.YthopphfehgdocaaGreatDoor.itoaF (Go.IntKind.wrap Go.IntKind.i64 (0 - n)))) : Nat) : Int)))) else 0))) && (((decide ((((((ByteArray.size (ByteArray.mk #[45])) + (ByteArray.size (Go.Proofs.YthopphfehgdocaaGreatDoor.repF (ByteArray.mk #[48]) (if ((Go.IntKind.wrap Go.IntKind.i64 (2 - ((((ByteArray.size (Go.Proofs.YthopphfehgdocaaGreatDoor.itoaF (Go.IntKind.wrap Go.IntKind.i64 (0 - n)))) : Nat) : Int)))) > 0) then (Go.IntKind.wrap Go.IntKind.i64 (2 - ((((ByteArray.size (Go.Proofs.YthopphfehgdocaaGreatDoor.itoaF (Go.IntKind.wrap Go.IntKind.i64 (0 - n)))) : Nat) : Int)))) else 0)))) : Nat) : Int)) ≤ (Int.ofNat (9223372036854775808 - 1))))) && (((decide ((((((ByteArray.size ((ByteArray.mk #[45]) ++ (Go.Proofs.YthopphfehgdocaaGreatDoor.repF (ByteArray.mk #[48]) (if ((Go.IntKind.wrap Go.IntKind.i64 (2 - ((((ByteArray.size (Go.Proofs.YthopphfehgdocaaGreatDoor.itoaF (Go.IntKind.wrap Go.IntKind.i64 (0 - n)))) : Nat) : Int)))) > 0) then (Go.IntKind.wrap Go.IntKind.i64 (2 - ((((ByteArray.size (Go.Proofs.YthopphfehgdocaaGreatDoor.itoaF (Go.IntKind.wrap Go.IntKind.i64 (0 - n)))) : Nat) : Int)))) else 0)))) + (ByteArray.size (Go.Proofs.YthopphfehgdocaaGreatDoor.itoaF (Go.IntKind.wrap Go.IntKind.i64 (0 - n))))) : Nat) : Int)) ≤ (Int.ofNat (9223372036854775808 - 1))))) && true)))) else (((Go.Proofs.YthopphfehgdocaaGreatDoor.i64F n)) && (((Go.Proofs.YthopphfehgdocaaGreatDoor.repOkF (ByteArray.mk (List.toArray [48])) (if ((Go.IntKind.wrap Go.IntKind.i64 (2 - ((((ByteArray.size (Go.Proofs.YthopphfehgdocaaGreatDoor.itoaF n)) : Nat) : Int)))) > 0) then (Go.IntKind.wrap Go.IntKind.i64 (2 - ((((ByteArray.size (Go.Proofs.YthopphfehgdocaaGreatDoor.itoaF n)) : Nat) : Int)))) else 0))) && (((decide ((((((ByteArray.size (ByteArray.mk #[])) + (ByteArray.size (Go.Proofs.YthopphfehgdocaaGreatDoor.repF (ByteArray.mk #[48]) (if ((Go.IntKind.wrap Go.IntKind.i64 (2 - ((((ByteArray.size (Go.Proofs.YthopphfehgdocaaGreatDoor.itoaF n)) : Nat) : Int)))) > 0) then (Go.IntKind.wrap Go.IntKind.i64 (2 - ((((ByteArray.size (Go.Proofs.YthopphfehgdocaaGreatDoor.itoaF n)) : Nat) : Int)))) else 0)))) : Nat) : Int)) ≤ (Int.ofNat (9223372036854775808 - 1))))) && (((decide ((((((ByteArray.size ((ByteArray.mk #[]) ++ (Go.Proofs.YthopphfehgdocaaGreatDoor.repF (ByteArray.mk #[48]) (if ((Go.IntKind.wrap Go.IntKind.i64 (2 - ((((ByteArray.size (Go.Proofs.YthopphfehgdocaaGreatDoor.itoaF n)) : Nat) : Int)))) > 0) then (Go.IntKind.wrap Go.IntKind.i64 (2 - ((((ByteArray.size (Go.Proofs.YthopphfehgdocaaGreatDoor.itoaF n)) : Nat) : Int)))) else 0)))) + (ByteArray.size (Go.Proofs.YthopphfehgdocaaGreatDoor.itoaF n))) : Nat) : Int)) ≤ (Int.ofNat (9223372036854775808 - 1))))) && true)))))
theorem ctwo_ev (n : Int) (H : Hp) (nx : Nat) (hok : ctwoOkF n = true) : ∃ k, evFunc (withFns cx0 laS lpE) 30 96 #[.int .i64 n] H nx = some ((Go.Value.string (ctwo0F n)), H, k) := by
  unfold ctwoOkF at hok
  cases c0_ : ((decide (n < 0))) with
  | true =>
    have c1_ : ((Go.Proofs.YthopphfehgdocaaGreatDoor.i64F (Go.IntKind.wrap Go.IntKind.i64 (0 - n)))) = true := by
      simp only [c0_, Bool.and_eq_true, Bool.not_eq_true', cond_true, cond_false] at hok
      first | exact hok.1 | (simp only [Bool.not_eq_true']; exact hok.1)
    replace hok := by
      simp only [c0_, c1_, Bool.not_true, Bool.not_false, Bool.true_and, cond_true, cond_false] at hok
      exact hok
    have c2_ : ((Go.Proofs.YthopphfehgdocaaGreatDoor.repOkF (ByteArray.mk (List.toArray [48])) (if ((Go.IntKind.wrap Go.IntKind.i64 (2 - ((((ByteArray.size (Go.Proofs.YthopphfehgdocaaGreatDoor.itoaF (Go.IntKind.wrap Go.IntKind.i64 (0 - n)))) : Nat) : Int)))) > 0) then (Go.IntKind.wrap Go.IntKind.i64 (2 - ((((ByteArray.size (Go.Proofs.YthopphfehgdocaaGreatDoor.itoaF (Go.IntKind.wrap Go.IntKind.i64 (0 - n)))) : Nat) : Int)))) else 0))) = true := by
      simp only [c0_, c1_, Bool.and_eq_true, Bool.not_eq_true', cond_true, cond_false] at hok
      first | exact hok.1 | (simp only [Bool.not_eq_true']; exact hok.1)
    replace hok := by
      simp only [c0_, c1_, c2_, Bool.not_true, Bool.not_false, Bool.true_and, cond_true, cond_false] at hok
      exact hok
    have c3_ : ((decide ((((((ByteArray.size (ByteArray.mk #[45])) + (ByteArray.size (Go.Proofs.YthopphfehgdocaaGreatDoor.repF (ByteArray.mk #[48]) (if ((Go.IntKind.wrap Go.IntKind.i64 (2 - ((((ByteArray.size (Go.Proofs.YthopphfehgdocaaGreatDoor.itoaF (Go.IntKind.wrap Go.IntKind.i64 (0 - n)))) : Nat) : Int)))) > 0) then (Go.IntKind.wrap Go.IntKind.i64 (2 - ((((ByteArray.size (Go.Proofs.YthopphfehgdocaaGreatDoor.itoaF (Go.IntKind.wrap Go.IntKind.i64 (0 - n)))) : Nat) : Int)))) else 0)))) : Nat) : Int)) ≤ (Int.ofNat (9223372036854775808 - 1))))) = true := by
      simp only [c0_, c1_, c2_, Bool.and_eq_true, Bool.not_eq_true', cond_true, cond_false] at hok
      first | exact hok.1 | (simp only [Bool.not_eq_true']; exact hok.1)
    replace hok := by
      simp only [c0_, c1_, c2_, c3_, Bool.not_true, Bool.not_false, Bool.true_and, cond_true, cond_false] at hok
      exact hok
    have c4_ : ((decide ((((((ByteArray.size ((ByteArray.mk #[45]) ++ (Go.Proofs.YthopphfehgdocaaGreatDoor.repF (ByteArray.mk #[48]) (if ((Go.IntKind.wrap Go.IntKind.i64 (2 - ((((ByteArray.size (Go.Proofs.YthopphfehgdocaaGreatDoor.itoaF (Go.IntKind.wrap Go.IntKind.i64 (0 - n)))) : Nat) : Int)))) > 0) then (Go.IntKind.wrap Go.IntKind.i64 (2 - ((((ByteArray.size (Go.Proofs.YthopphfehgdocaaGreatDoor.itoaF (Go.IntKind.wrap Go.IntKind.i64 (0 - n)))) : Nat) : Int)))) else 0)))) + (ByteArray.size (Go.Proofs.YthopphfehgdocaaGreatDoor.itoaF (Go.IntKind.wrap Go.IntKind.i64 (0 - n))))) : Nat) : Int)) ≤ (Int.ofNat (9223372036854775808 - 1))))) = true := by
      simp only [c0_, c1_, c2_, c3_, Bool.and_eq_true, Bool.not_eq_true', cond_true, cond_false] at hok
      first | exact hok.1 | (simp only [Bool.not_eq_true']; exact hok.1)
    replace hok := by
      simp only [c0_, c1_, c2_, c3_, c4_, Bool.not_true, Bool.not_false, Bool.true_and, cond_true, cond_false] at hok
      exact hok
    unfold ctwo0F
    try simp only [c0_, c1_, c2_, c3_, c4_, cond_true, cond_false]
    exact ⟨_, ctwo_p1 n H nx (by rw [c0_]; rfl) (by rw [c1_]; rfl) (by rw [c2_]; rfl) c3_ c4_⟩
  | false =>
    have c1_ : ((Go.Proofs.YthopphfehgdocaaGreatDoor.i64F n)) = true := by
      simp only [c0_, Bool.and_eq_true, Bool.not_eq_true', cond_true, cond_false] at hok
      first | exact hok.1 | (simp only [Bool.not_eq_true']; exact hok.1)
    replace hok := by
      simp only [c0_, c1_, Bool.not_true, Bool.not_false, Bool.true_and, cond_true, cond_false] at hok
      exact hok
    have c2_ : ((Go.Proofs.YthopphfehgdocaaGreatDoor.repOkF (ByteArray.mk (List.toArray [48])) (if ((Go.IntKind.wrap Go.IntKind.i64 (2 - ((((ByteArray.size (Go.Proofs.YthopphfehgdocaaGreatDoor.itoaF n)) : Nat) : Int)))) > 0) then (Go.IntKind.wrap Go.IntKind.i64 (2 - ((((ByteArray.size (Go.Proofs.YthopphfehgdocaaGreatDoor.itoaF n)) : Nat) : Int)))) else 0))) = true := by
      simp only [c0_, c1_, Bool.and_eq_true, Bool.not_eq_true', cond_true, cond_false] at hok
      first | exact hok.1 | (simp only [Bool.not_eq_true']; exact hok.1)
    replace hok := by
      simp only [c0_, c1_, c2_, Bool.not_true, Bool.not_false, Bool.true_and, cond_true, cond_false] at hok
      exact hok
    have c3_ : ((decide ((((((ByteArray.size (ByteArray.mk #[])) + (ByteArray.size (Go.Proofs.YthopphfehgdocaaGreatDoor.repF (ByteArray.mk #[48]) (if ((Go.IntKind.wrap Go.IntKind.i64 (2 - ((((ByteArray.size (Go.Proofs.YthopphfehgdocaaGreatDoor.itoaF n)) : Nat) : Int)))) > 0) then (Go.IntKind.wrap Go.IntKind.i64 (2 - ((((ByteArray.size (Go.Proofs.YthopphfehgdocaaGreatDoor.itoaF n)) : Nat) : Int)))) else 0)))) : Nat) : Int)) ≤ (Int.ofNat (9223372036854775808 - 1))))) = true := by
      simp only [c0_, c1_, c2_, Bool.and_eq_true, Bool.not_eq_true', cond_true, cond_false] at hok
      first | exact hok.1 | (simp only [Bool.not_eq_true']; exact hok.1)
    replace hok := by
      simp only [c0_, c1_, c2_, c3_, Bool.not_true, Bool.not_false, Bool.true_and, cond_true, cond_false] at hok
      exact hok
    have c4_ : ((decide ((((((ByteArray.size ((ByteArray.mk #[]) ++ (Go.Proofs.YthopphfehgdocaaGreatDoor.repF (ByteArray.mk #[48]) (if ((Go.IntKind.wrap Go.IntKind.i64 (2 - ((((ByteArray.size (Go.Proofs.YthopphfehgdocaaGreatDoor.itoaF n)) : Nat) : Int)))) > 0) then (Go.IntKind.wrap Go.IntKind.i64 (2 - ((((ByteArray.size (Go.Proofs.YthopphfehgdocaaGreatDoor.itoaF n)) : Nat) : Int)))) else 0)))) + (ByteArray.size (Go.Proofs.YthopphfehgdocaaGreatDoor.itoaF n))) : Nat) : Int)) ≤ (Int.ofNat (9223372036854775808 - 1))))) = true := by
      simp only [c0_, c1_, c2_, c3_, Bool.and_eq_true, Bool.not_eq_true', cond_true, cond_false] at hok
      first | exact hok.1 | (simp only [Bool.not_eq_true']; exact hok.1)
    replace hok := by
      simp only [c0_, c1_, c2_, c3_, c4_, Bool.not_true, Bool.not_false, Bool.true_and, cond_true, cond_false] at hok
      exact hok
    unfold ctwo0F
    try simp only [c0_, c1_, c2_, c3_, c4_, cond_true, cond_false]
    exact ⟨_, ctwo_p0 n H nx (by rw [c0_]; rfl) (by rw [c1_]; rfl) (by rw [c2_]; rfl) c3_ c4_⟩
def ctwoV (args : Array Value) : Option Value := match args.toList with
  | [.int .i64 n] => some (Go.Value.string (ctwo0F n))
  | _ => none
def ctwoK (args : Array Value) : Bool := match args.toList with
  | [.int .i64 n] => (ctwoOkF n == true)
  | _ => false
def ctwoA : AFn := { f := 96, val := ctwoV, ok := ctwoK }
theorem ctwo_sound : PSound cx0 ctwoA.pfn := psound_of_evW cx_ok laS_sound lpE_sound fun args v h H nx => by
  obtain ⟨hv, hk⟩ := afn_some h
  replace hv : ctwoV args = some v := hv
  replace hk : ctwoK args = true := hk
  unfold ctwoV at hv
  split at hv
  · rename_i n hx
    have ha := args_list hx
    subst ha
    cases hv
    have hok : ctwoOkF n = true := by simpa [ctwoK] using hk
    obtain ⟨k, e⟩ := ctwo_ev n H nx hok
    exact ⟨30, k, e⟩
  · cases hv
end Go.Proofs.YthopphfehgdocaaGreatDoor
namespace Go.Ev
theorem tabI_or {i : Intr} {t : Intr} {f : FuncId} {g} (h : (match t f with | some g => some g | none => i f) = some g) : t f = some g ∨ i f = some g := by
  split at h
  · rename_i g' hg; cases h; exact .inl hg
  · exact .inr h
end Go.Ev
namespace Go.Proofs.YthopphfehgdocaaGreatDoor
open Go Go.RowKit Go.Ev Go.Proofs Go.Shelf
set_option linter.unusedSimpArgs false
set_option linter.unusedVariables false
/-! ### The context in which functions are taken by contract, strings.Builder's two (they look at the heap) among them -/
noncomputable def iB (la : List AFn) (lp : List PFn) : Intr := fun f => match tabI (la.map AFn.pfn ++ lp) f with
  | some g => some g
  | none => bIntr f
noncomputable def withB (la : List AFn) (lp : List PFn) : Cx := { cx0 with intr := iB la lp, asrt := tabA la }
theorem withB_asrt (la : List AFn) (lp : List PFn) : AsrtOk (withB la lp) := fun f a args H nx v H' nx' h k => by
  obtain ⟨g, h1, h2⟩ := tabA_ok lp la (show tabA la f = some a from h) k
  refine ⟨g, ?_, h2⟩
  show iB la lp f = some g
  unfold iB
  rw [h1]
theorem withB_intr {la : List AFn} {lp : List PFn} (ha : ∀ e ∈ la, PSound cx0 e.pfn) (hp : ∀ e ∈ lp, PSound cx0 e) : IntrOk (withB la lp) where
  sound f g hg := by
    rcases tabI_or (show iB la lp f = some g from hg) with hg | hg
    · obtain ⟨e, h1, rfl, rfl⟩ := tabI_some _ hg
      refine Sound.asrt (cx := cx0) ?_
      rcases List.mem_append.1 h1 with h1 | h1
      · obtain ⟨e', h2, rfl⟩ := List.mem_map.1 h1
        exact ha e' h2 _
      · exact hp e h1 _
    · refine Sound.asrt (cx := cx0) ?_
      rcases bIntr_some hg with ⟨rfl, rfl⟩ | ⟨rfl, rfl⟩
      · exact ccI_sound (ρ := bl_ren) cx0 _ bl_n240 bl_extra.toX72
      · exact strI_sound (ρ := bl_ren) cx0 _ bl_n169 bl_extra
  mono f g hg := by
    rcases tabI_or (show iB la lp f = some g from hg) with hg | hg
    · obtain ⟨e, h1, rfl, rfl⟩ := tabI_some _ hg
      exact pureI_mono _ _ _
    · rcases bIntr_some hg with ⟨rfl, rfl⟩ | ⟨rfl, rfl⟩
      · exact ccI_mono _ _ _
      · exact strI_mono _ _ _ _
theorem CxOk.withB (la : List AFn) (lp : List PFn) : CxOk (withB la lp) where
  info := (cx_ok (iB la lp)).info
  body := (cx_ok (iB la lp)).body
  mixed := (cx_ok (iB la lp)).mixed
  name := (cx_ok (iB la lp)).name
  zero := (cx_ok (iB la lp)).zero
  wp := (cx_ok (iB la lp)).wp
theorem ext_okB (la : List AFn) (lp : List PFn) : ExtOk (withB la lp) ext := fun k args v h => ext_ok (iB la lp) k args v h
theorem hkB (la : List AFn) (lp : List PFn) : HookOk (withB la lp) hk := hk_eq (iB la lp) (tabA la) ▸ hook_ok (cx := withB la lp) (CxOk.withB la lp) (ext_okB la lp) (withB_asrt la lp)
end Go.Proofs.YthopphfehgdocaaGreatDoor
