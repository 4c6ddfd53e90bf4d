import Derived.Test.YthopphfehgdocaaGreatDoorRef4
import Derived.Test.YthopphfehgdocaaGreatDoorRef5
import Derived.Test.YthopphfehgdocaaGreatDoorRef3
namespace Go.Proofs.YthopphfehgdocaaGreatDoor
open Go Go.RowKit Go.Ev Go.Proofs Go.Shelf
set_option linter.unusedSimpArgs false
set_option linter.unusedVariables false
/-- so many copies of a text -/
def repF (s : ByteArray) (c : Int) : ByteArray := ⟨(Lib.repeatL s.data.toList c.toNat).toArray⟩
def repOkF (s : ByteArray) (c : Int) : Bool := decide (0 ≤ c) && (decide (c ≤ 1000) && decide (s.size ≤ 1000))
def repV (args : Array Value) : Option Value := match args.toList with
  | [.string s, .int .i64 c] => some (.string (repF s c))
  | _ => none
def repK (args : Array Value) : Bool := match args.toList with
  | [.string s, .int .i64 c] => (repOkF s c == true)
  | _ => false
def repA : AFn := { f := 169, val := repV, ok := repK }
theorem rep_sound : PSound cx0 repA.pfn := fun i => pureI_sound fun args args' v B w E hW hB har h => by
  obtain ⟨hv, hk⟩ := afn_some h
  replace hv : repV args = some v := hv
  replace hk : repK args = true := hk
  unfold repV at hv
  split at hv
  · rename_i s c hx
    have ha := args_list hx
    subst ha
    cases hv
    have hn : repOkF s c = true := by simpa [repK] using hk
    unfold repOkF at hn
    simp only [Bool.and_eq_true, decide_eq_true_eq] at hn
    have he : args' = #[.string s, .int .i64 c] := by
      refine Array.ext har.1.symm fun k h1 h2 => ?_
      have p : (#[Value.string s, .int .i64 c])[k]? = some (#[Value.string s, .int .i64 c])[k] := Array.getElem?_eq_getElem h2
      have q : args'[k]? = some args'[k] := Array.getElem?_eq_getElem h1
      refine (har.2 k _ _ p q).shut_eq 60 (closed_all (a := #[Value.string s, .int .i64 c]) rfl k _ p)
    subst he
    have hm : s.size * c.toNat ≤ 1000 * 1000 := Nat.mul_le_mul hn.2.2 (by omega)
    have hc : c = ((c.toNat : Nat) : Int) := by omega
    have e := Tryz.strings_Repeat s c.toNat w (by omega) (by omega)
    rw [← hc] at e
    refine e.mono ?_
    rintro e w' ⟨rfl, hb⟩
    exact ⟨rfl, rfl, hb⟩
  · cases hv
/-- with the texts of numbers -/
def laS : List AFn := [repA, itoaA]
theorem laS_sound : ∀ e ∈ laS, PSound cx0 e.pfn := asound_cons rep_sound (asound_cons itoa_sound asound_nil)
end Go.Proofs.YthopphfehgdocaaGreatDoor
namespace Go.Proofs.YthopphfehgdocaaGreatDoor
open Go Go.RowKit Go.Ev Go.Proofs Go.Shelf
set_option linter.unusedSimpArgs false
set_option linter.unusedVariables false

theorem ctwo_p0 (n : Int) (H : Hp) (nx : Nat) (h1 : ((decide (n < 0)) == false) = true) (h2 : ((i64F n) == true) = true) (h3 : ((repOkF (ByteArray.mk (List.toArray [48])) (if ((IntKind.i64.wrap (2 - ((((ByteArray.size (itoaF n)) : Nat) : Int)))) > 0) then (IntKind.i64.wrap (2 - ((((ByteArray.size (itoaF n)) : Nat) : Int)))) else 0)) == true) = true) (h4 : (decide ((((((ByteArray.size (ByteArray.mk #[])) + (ByteArray.size (repF (ByteArray.mk #[48]) (if ((IntKind.i64.wrap (2 - ((((ByteArray.size (itoaF n)) : Nat) : Int)))) > 0) then (IntKind.i64.wrap (2 - ((((ByteArray.size (itoaF n)) : Nat) : Int)))) else 0)))) : Nat) : Int)) ≤ (Int.ofNat (9223372036854775808 - 1)))) = true) (h5 : (decide ((((((ByteArray.size ((ByteArray.mk #[]) ++ (repF (ByteArray.mk #[48]) (if ((IntKind.i64.wrap (2 - ((((ByteArray.size (itoaF n)) : Nat) : Int)))) > 0) then (IntKind.i64.wrap (2 - ((((ByteArray.size (itoaF n)) : Nat) : Int)))) else 0)))) + (ByteArray.size (itoaF n))) : Nat) : Int)) ≤ (Int.ofNat (9223372036854775808 - 1)))) = true) : evFunc (withFns cx0 laS lpE) 30 96 #[.int .i64 n] H nx = some ((Go.Value.string (((ByteArray.mk #[]) ++ (repF (ByteArray.mk #[48]) (if ((IntKind.i64.wrap (2 - ((((ByteArray.size (itoaF n)) : Nat) : Int)))) > 0) then (IntKind.i64.wrap (2 - ((((ByteArray.size (itoaF n)) : Nat) : Int)))) else 0))) ++ (itoaF n))), H, nx + 23) :=
  orc_sel_run ((hkW laS lpE)) (m := [true, true, true, true, true]) (l := [((decide (n < 0)) == false), ((i64F n) == true), ((repOkF (ByteArray.mk (List.toArray [48])) (if ((IntKind.i64.wrap (2 - ((((ByteArray.size (itoaF n)) : Nat) : Int)))) > 0) then (IntKind.i64.wrap (2 - ((((ByteArray.size (itoaF n)) : Nat) : Int)))) else 0)) == true), (decide ((((((ByteArray.size (ByteArray.mk #[])) + (ByteArray.size (repF (ByteArray.mk #[48]) (if ((IntKind.i64.wrap (2 - ((((ByteArray.size (itoaF n)) : Nat) : Int)))) > 0) then (IntKind.i64.wrap (2 - ((((ByteArray.size (itoaF n)) : Nat) : Int)))) else 0)))) : Nat) : Int)) ≤ (Int.ofNat (9223372036854775808 - 1)))), (decide ((((((ByteArray.size ((ByteArray.mk #[]) ++ (repF (ByteArray.mk #[48]) (if ((IntKind.i64.wrap (2 - ((((ByteArray.size (itoaF n)) : Nat) : Int)))) > 0) then (IntKind.i64.wrap (2 - ((((ByteArray.size (itoaF n)) : Nat) : Int)))) else 0)))) + (ByteArray.size (itoaF n))) : Nat) : Int)) ≤ (Int.ofNat (9223372036854775808 - 1))))]) (p := [false]) (by kernel_rfl) (by kernel_rfl) (by kernel_rfl) (forall_cons h1 (forall_cons h2 (forall_cons h3 (forall_cons h4 (forall_cons h5 forall_nil)))))
theorem ctwo_p1 (n : Int) (H : Hp) (nx : Nat) (h1 : ((decide (n < 0)) == true) = true) (h2 : ((i64F (IntKind.i64.wrap (0 - n))) == true) = true) (h3 : ((repOkF (ByteArray.mk (List.toArray [48])) (if ((IntKind.i64.wrap (2 - ((((ByteArray.size (itoaF (IntKind.i64.wrap (0 - n)))) : Nat) : Int)))) > 0) then (IntKind.i64.wrap (2 - ((((ByteArray.size (itoaF (IntKind.i64.wrap (0 - n)))) : Nat) : Int)))) else 0)) == true) = true) (h4 : (decide ((((((ByteArray.size (ByteArray.mk #[45])) + (ByteArray.size (repF (ByteArray.mk #[48]) (if ((IntKind.i64.wrap (2 - ((((ByteArray.size (itoaF (IntKind.i64.wrap (0 - n)))) : Nat) : Int)))) > 0) then (IntKind.i64.wrap (2 - ((((ByteArray.size (itoaF (IntKind.i64.wrap (0 - n)))) : Nat) : Int)))) else 0)))) : Nat) : Int)) ≤ (Int.ofNat (9223372036854775808 - 1)))) = true) (h5 : (decide ((((((ByteArray.size ((ByteArray.mk #[45]) ++ (repF (ByteArray.mk #[48]) (if ((IntKind.i64.wrap (2 - ((((ByteArray.size (itoaF (IntKind.i64.wrap (0 - n)))) : Nat) : Int)))) > 0) then (IntKind.i64.wrap (2 - ((((ByteArray.size (itoaF (IntKind.i64.wrap (0 - n)))) : Nat) : Int)))) else 0)))) + (ByteArray.size (itoaF (IntKind.i64.wrap (0 - n))))) : Nat) : Int)) ≤ (Int.ofNat (9223372036854775808 - 1)))) = true) : evFunc (withFns cx0 laS lpE) 30 96 #[.int .i64 n] H nx = some ((Go.Value.string (((ByteArray.mk #[45]) ++ (repF (ByteArray.mk #[48]) (if ((IntKind.i64.wrap (2 - ((((ByteArray.size (itoaF (IntKind.i64.wrap (0 - n)))) : Nat) : Int)))) > 0) then (IntKind.i64.wrap (2 - ((((ByteArray.size (itoaF (IntKind.i64.wrap (0 - n)))) : Nat) : Int)))) else 0))) ++ (itoaF (IntKind.i64.wrap (0 - n))))), H, nx + 27) :=
  orc_sel_run ((hkW laS lpE)) (m := [true, true, true, true, true]) (l := [((decide (n < 0)) == true), ((i64F (IntKind.i64.wrap (0 - n))) == true), ((repOkF (ByteArray.mk (List.toArray [48])) (if ((IntKind.i64.wrap (2 - ((((ByteArray.size (itoaF (IntKind.i64.wrap (0 - n)))) : Nat) : Int)))) > 0) then (IntKind.i64.wrap (2 - ((((ByteArray.size (itoaF (IntKind.i64.wrap (0 - n)))) : Nat) : Int)))) else 0)) == true), (decide ((((((ByteArray.size (ByteArray.mk #[45])) + (ByteArray.size (repF (ByteArray.mk #[48]) (if ((IntKind.i64.wrap (2 - ((((ByteArray.size (itoaF (IntKind.i64.wrap (0 - n)))) : Nat) : Int)))) > 0) then (IntKind.i64.wrap (2 - ((((ByteArray.size (itoaF (IntKind.i64.wrap (0 - n)))) : Nat) : Int)))) else 0)))) : Nat) : Int)) ≤ (Int.ofNat (9223372036854775808 - 1)))), (decide ((((((ByteArray.size ((ByteArray.mk #[45]) ++ (repF (ByteArray.mk #[48]) (if ((IntKind.i64.wrap (2 - ((((ByteArray.size (itoaF (IntKind.i64.wrap (0 - n)))) : Nat) : Int)))) > 0) then (IntKind.i64.wrap (2 - ((((ByteArray.size (itoaF (IntKind.i64.wrap (0 - n)))) : Nat) : Int)))) else 0)))) + (ByteArray.size (itoaF (IntKind.i64.wrap (0 - n))))) : Nat) : Int)) ≤ (Int.ofNat (9223372036854775808 - 1))))]) (p := [true]) (by kernel_rfl) (by kernel_rfl) (by kernel_rfl) (forall_cons h1 (forall_cons h2 (forall_cons h3 (forall_cons h4 (forall_cons h5 forall_nil)))))
def ctwo0F (n : Int) : ByteArray := (bif (decide (n < 0)) then (((ByteArray.mk #[45]) ++ (repF (ByteArray.mk #[48]) (if ((IntKind.i64.wrap (2 - ((((ByteArray.size (itoaF (IntKind.i64.wrap (0 - n)))) : Nat) : Int)))) > 0) then (IntKind.i64.wrap (2 - ((((ByteArray.size (itoaF (IntKind.i64.wrap (0 - n)))) : Nat) : Int)))) else 0))) ++ (itoaF (IntKind.i64.wrap (0 - n)))) else (((ByteArray.mk #[]) ++ (repF (ByteArray.mk #[48]) (if ((IntKind.i64.wrap (2 - ((((ByteArray.size (itoaF n)) : Nat) : Int)))) > 0) then (IntKind.i64.wrap (2 - ((((ByteArray.size (itoaF n)) : Nat) : Int)))) else 0))) ++ (itoaF n)))
def ctwoOkF (n : Int) : Bool := (bif (decide (n < 0)) then (((i64F (IntKind.i64.wrap (0 - n)))) && (((repOkF (ByteArray.mk (List.toArray [48])) (if ((IntKind.i64.wrap (2 - ((((ByteArray.size (itoaF (IntKind.i64.wrap (0 - n)))) : Nat) : Int)))) > 0) then (IntKind.i64.wrap (2 - ((((ByteArray.size (itoaF (IntKind.i64.wrap (0 - n)))) : Nat) : Int)))) else 0))) && (((decide ((((((ByteArray.size (ByteArray.mk #[45])) + (ByteArray.size (repF (ByteArray.mk #[48]) (if ((IntKind.i64.wrap (2 - ((((ByteArray.size (itoaF (IntKind.i64.wrap (0 - n)))) : Nat) : Int)))) > 0) then (IntKind.i64.wrap (2 - ((((ByteArray.size (itoaF (IntKind.i64.wrap (0 - n)))) : Nat) : Int)))) else 0)))) : Nat) : Int)) ≤ (Int.ofNat (9223372036854775808 - 1))))) && (((decide ((((((ByteArray.size ((ByteArray.mk #[45]) ++ (repF (ByteArray.mk #[48]) (if ((IntKind.i64.wrap (2 - ((((ByteArray.size (itoaF (IntKind.i64.wrap (0 - n)))) : Nat) : Int)))) > 0) then (IntKind.i64.wrap (2 - ((((ByteArray.size (itoaF (IntKind.i64.wrap (0 - n)))) : Nat) : Int)))) else 0)))) + (ByteArray.size (itoaF (IntKind.i64.wrap (0 - n))))) : Nat) : Int)) ≤ (Int.ofNat (9223372036854775808 - 1))))) && true)))) else (((i64F n)) && (((repOkF (ByteArray.mk (List.toArray [48])) (if ((IntKind.i64.wrap (2 - ((((ByteArray.size (itoaF n)) : Nat) : Int)))) > 0) then (IntKind.i64.wrap (2 - ((((ByteArray.size (itoaF n)) : Nat) : Int)))) else 0))) && (((decide ((((((ByteArray.size (ByteArray.mk #[])) + (ByteArray.size (repF (ByteArray.mk #[48]) (if ((IntKind.i64.wrap (2 - ((((ByteArray.size (itoaF n)) : Nat) : Int)))) > 0) then (IntKind.i64.wrap (2 - ((((ByteArray.size (itoaF n)) : Nat) : Int)))) else 0)))) : Nat) : Int)) ≤ (Int.ofNat (9223372036854775808 - 1))))) && (((decide ((((((ByteArray.size ((ByteArray.mk #[]) ++ (repF (ByteArray.mk #[48]) (if ((IntKind.i64.wrap (2 - ((((ByteArray.size (itoaF n)) : Nat) : Int)))) > 0) then (IntKind.i64.wrap (2 - ((((ByteArray.size (itoaF n)) : Nat) : Int)))) else 0)))) + (ByteArray.size (itoaF n))) : Nat) : Int)) ≤ (Int.ofNat (9223372036854775808 - 1))))) && true)))))
theorem ctwo_ev (n : Int) (H : Hp) (nx : Nat) (hok : ctwoOkF n = true) : ∃ k, evFunc (withFns cx0 laS lpE) 30 96 #[.int .i64 n] H nx = some ((Go.Value.string (ctwo0F n)), H, k) := by
  unfold ctwoOkF at hok
  cases c0_ : ((decide (n < 0))) with
  | true =>
    have c1_ : ((i64F (IntKind.i64.wrap (0 - n)))) = true := by
      simp only [c0_, Bool.and_eq_true, Bool.not_eq_true', cond_true, cond_false] at hok
      first | exact hok.1 | (simp only [Bool.not_eq_true']; exact hok.1)
    replace hok := by
      simp only [c0_, c1_, Bool.not_true, Bool.not_false, Bool.true_and, cond_true, cond_false] at hok
      exact hok
    have c2_ : ((repOkF (ByteArray.mk (List.toArray [48])) (if ((IntKind.i64.wrap (2 - ((((ByteArray.size (itoaF (IntKind.i64.wrap (0 - n)))) : Nat) : Int)))) > 0) then (IntKind.i64.wrap (2 - ((((ByteArray.size (itoaF (IntKind.i64.wrap (0 - n)))) : Nat) : Int)))) else 0))) = true := by
      simp only [c0_, c1_, Bool.and_eq_true, Bool.not_eq_true', cond_true, cond_false] at hok
      first | exact hok.1 | (simp only [Bool.not_eq_true']; exact hok.1)
    replace hok := by
      simp only [c0_, c1_, c2_, Bool.not_true, Bool.not_false, Bool.true_and, cond_true, cond_false] at hok
      exact hok
    have c3_ : ((decide ((((((ByteArray.size (ByteArray.mk #[45])) + (ByteArray.size (repF (ByteArray.mk #[48]) (if ((IntKind.i64.wrap (2 - ((((ByteArray.size (itoaF (IntKind.i64.wrap (0 - n)))) : Nat) : Int)))) > 0) then (IntKind.i64.wrap (2 - ((((ByteArray.size (itoaF (IntKind.i64.wrap (0 - n)))) : Nat) : Int)))) else 0)))) : Nat) : Int)) ≤ (Int.ofNat (9223372036854775808 - 1))))) = true := by
      simp only [c0_, c1_, c2_, Bool.and_eq_true, Bool.not_eq_true', cond_true, cond_false] at hok
      first | exact hok.1 | (simp only [Bool.not_eq_true']; exact hok.1)
    replace hok := by
      simp only [c0_, c1_, c2_, c3_, Bool.not_true, Bool.not_false, Bool.true_and, cond_true, cond_false] at hok
      exact hok
    have c4_ : ((decide ((((((ByteArray.size ((ByteArray.mk #[45]) ++ (repF (ByteArray.mk #[48]) (if ((IntKind.i64.wrap (2 - ((((ByteArray.size (itoaF (IntKind.i64.wrap (0 - n)))) : Nat) : Int)))) > 0) then (IntKind.i64.wrap (2 - ((((ByteArray.size (itoaF (IntKind.i64.wrap (0 - n)))) : Nat) : Int)))) else 0)))) + (ByteArray.size (itoaF (IntKind.i64.wrap (0 - n))))) : Nat) : Int)) ≤ (Int.ofNat (9223372036854775808 - 1))))) = true := by
      simp only [c0_, c1_, c2_, c3_, Bool.and_eq_true, Bool.not_eq_true', cond_true, cond_false] at hok
      first | exact hok.1 | (simp only [Bool.not_eq_true']; exact hok.1)
    replace hok := by
      simp only [c0_, c1_, c2_, c3_, c4_, Bool.not_true, Bool.not_false, Bool.true_and, cond_true, cond_false] at hok
      exact hok
    unfold ctwo0F
    try simp only [c0_, c1_, c2_, c3_, c4_, cond_true, cond_false]
    exact ⟨_, ctwo_p1 n H nx (by rw [c0_]; rfl) (by rw [c1_]; rfl) (by rw [c2_]; rfl) c3_ c4_⟩
  | false =>
    have c1_ : ((i64F n)) = true := by
      simp only [c0_, Bool.and_eq_true, Bool.not_eq_true', cond_true, cond_false] at hok
      first | exact hok.1 | (simp only [Bool.not_eq_true']; exact hok.1)
    replace hok := by
      simp only [c0_, c1_, Bool.not_true, Bool.not_false, Bool.true_and, cond_true, cond_false] at hok
      exact hok
    have c2_ : ((repOkF (ByteArray.mk (List.toArray [48])) (if ((IntKind.i64.wrap (2 - ((((ByteArray.size (itoaF n)) : Nat) : Int)))) > 0) then (IntKind.i64.wrap (2 - ((((ByteArray.size (itoaF n)) : Nat) : Int)))) else 0))) = true := by
      simp only [c0_, c1_, Bool.and_eq_true, Bool.not_eq_true', cond_true, cond_false] at hok
      first | exact hok.1 | (simp only [Bool.not_eq_true']; exact hok.1)
    replace hok := by
      simp only [c0_, c1_, c2_, Bool.not_true, Bool.not_false, Bool.true_and, cond_true, cond_false] at hok
      exact hok
    have c3_ : ((decide ((((((ByteArray.size (ByteArray.mk #[])) + (ByteArray.size (repF (ByteArray.mk #[48]) (if ((IntKind.i64.wrap (2 - ((((ByteArray.size (itoaF n)) : Nat) : Int)))) > 0) then (IntKind.i64.wrap (2 - ((((ByteArray.size (itoaF n)) : Nat) : Int)))) else 0)))) : Nat) : Int)) ≤ (Int.ofNat (9223372036854775808 - 1))))) = true := by
      simp only [c0_, c1_, c2_, Bool.and_eq_true, Bool.not_eq_true', cond_true, cond_false] at hok
      first | exact hok.1 | (simp only [Bool.not_eq_true']; exact hok.1)
    replace hok := by
      simp only [c0_, c1_, c2_, c3_, Bool.not_true, Bool.not_false, Bool.true_and, cond_true, cond_false] at hok
      exact hok
    have c4_ : ((decide ((((((ByteArray.size ((ByteArray.mk #[]) ++ (repF (ByteArray.mk #[48]) (if ((IntKind.i64.wrap (2 - ((((ByteArray.size (itoaF n)) : Nat) : Int)))) > 0) then (IntKind.i64.wrap (2 - ((((ByteArray.size (itoaF n)) : Nat) : Int)))) else 0)))) + (ByteArray.size (itoaF n))) : Nat) : Int)) ≤ (Int.ofNat (9223372036854775808 - 1))))) = true := by
      simp only [c0_, c1_, c2_, c3_, Bool.and_eq_true, Bool.not_eq_true', cond_true, cond_false] at hok
      first | exact hok.1 | (simp only [Bool.not_eq_true']; exact hok.1)
    replace hok := by
      simp only [c0_, c1_, c2_, c3_, c4_, Bool.not_true, Bool.not_false, Bool.true_and, cond_true, cond_false] at hok
      exact hok
    unfold ctwo0F
    try simp only [c0_, c1_, c2_, c3_, c4_, cond_true, cond_false]
    exact ⟨_, ctwo_p0 n H nx (by rw [c0_]; rfl) (by rw [c1_]; rfl) (by rw [c2_]; rfl) c3_ c4_⟩
def ctwoV (args : Array Value) : Option Value := match args.toList with
  | [.int .i64 n] => some (Go.Value.string (ctwo0F n))
  | _ => none
def ctwoK (args : Array Value) : Bool := match args.toList with
  | [.int .i64 n] => (ctwoOkF n == true)
  | _ => false
def ctwoA : AFn := { f := 96, val := ctwoV, ok := ctwoK }
theorem ctwo_sound : PSound cx0 ctwoA.pfn := psound_of_evW cx_ok laS_sound lpE_sound fun args v h H nx => by
  obtain ⟨hv, hk⟩ := afn_some h
  replace hv : ctwoV args = some v := hv
  replace hk : ctwoK args = true := hk
  unfold ctwoV at hv
  split at hv
  · rename_i n hx
    have ha := args_list hx
    subst ha
    cases hv
    have hok : ctwoOkF n = true := by simpa [ctwoK] using hk
    obtain ⟨k, e⟩ := ctwo_ev n H nx hok
    exact ⟨30, k, e⟩
  · cases hv
end Go.Proofs.YthopphfehgdocaaGreatDoor
namespace Go.Ev
theorem tabI_or {i : Intr} {t : Intr} {f : FuncId} {g} (h : (match t f with | some g => some g | none => i f) = some g) : t f = some g ∨ i f = some g := by
  split at h
  · rename_i g' hg; cases h; exact .inl hg
  · exact .inr h
end Go.Ev
namespace Go.Proofs.YthopphfehgdocaaGreatDoor
open Go Go.RowKit Go.Ev Go.Proofs Go.Shelf
set_option linter.unusedSimpArgs false
set_option linter.unusedVariables false
/-! ### The context in which functions are taken by contract, strings.Builder's two (they look at the heap) among them -/
noncomputable def iB (la : List AFn) (lp : List PFn) : Intr := fun f => match tabI (la.map AFn.pfn ++ lp) f with
  | some g => some g
  | none => bIntr f
noncomputable def withB (la : List AFn) (lp : List PFn) : Cx := { cx0 with intr := iB la lp, asrt := tabA la }
theorem withB_asrt (la : List AFn) (lp : List PFn) : AsrtOk (withB la lp) := fun f a args H nx v H' nx' h k => by
  obtain ⟨g, h1, h2⟩ := tabA_ok lp la (show tabA la f = some a from h) k
  refine ⟨g, ?_, h2⟩
  show iB la lp f = some g
  unfold iB
  rw [h1]
theorem withB_intr {la : List AFn} {lp : List PFn} (ha : ∀ e ∈ la, PSound cx0 e.pfn) (hp : ∀ e ∈ lp, PSound cx0 e) : IntrOk (withB la lp) where
  sound f g hg := by
    rcases tabI_or (show iB la lp f = some g from hg) with hg | hg
    · obtain ⟨e, h1, rfl, rfl⟩ := tabI_some _ hg
      refine Sound.asrt (cx := cx0) ?_
      rcases List.mem_append.1 h1 with h1 | h1
      · obtain ⟨e', h2, rfl⟩ := List.mem_map.1 h1
        exact ha e' h2 _
      · exact hp e h1 _
    · refine Sound.asrt (cx := cx0) ?_
      rcases bIntr_some hg with ⟨rfl, rfl⟩ | ⟨rfl, rfl⟩
      · exact ccI_sound (ρ := bl_ren) cx0 _ bl_n240 bl_extra.toX72
      · exact strI_sound (ρ := bl_ren) cx0 _ bl_n169 bl_extra
  mono f g hg := by
    rcases tabI_or (show iB la lp f = some g from hg) with hg | hg
    · obtain ⟨e, h1, rfl, rfl⟩ := tabI_some _ hg
      exact pureI_mono _ _ _
    · rcases bIntr_some hg with ⟨rfl, rfl⟩ | ⟨rfl, rfl⟩
      · exact ccI_mono _ _ _
      · exact strI_mono _ _ _ _
theorem CxOk.withB (la : List AFn) (lp : List PFn) : CxOk (withB la lp) where
  info := (cx_ok (iB la lp)).info
  body := (cx_ok (iB la lp)).body
  mixed := (cx_ok (iB la lp)).mixed
  name := (cx_ok (iB la lp)).name
  zero := (cx_ok (iB la lp)).zero
  wp := (cx_ok (iB la lp)).wp
theorem ext_okB (la : List AFn) (lp : List PFn) : ExtOk (withB la lp) ext := fun k args v h => ext_ok (iB la lp) k args v h
theorem hkB (la : List AFn) (lp : List PFn) : HookOk (withB la lp) hk := hk_eq (iB la lp) (tabA la) ▸ hook_ok (cx := withB la lp) (CxOk.withB la lp) (ext_okB la lp) (withB_asrt la lp)
end Go.Proofs.YthopphfehgdocaaGreatDoor
namespace Go.Proofs.YthopphfehgdocaaGreatDoor
open Go Go.RowKit Go.Ev Go.Proofs Go.Shelf
def laT : List AFn := []
theorem laT_sound : ∀ e ∈ laT, PSound cx0 e.pfn := asound_nil
end Go.Proofs.YthopphfehgdocaaGreatDoor
namespace Go.Proofs.YthopphfehgdocaaGreatDoor
open Go Go.RowKit Go.Ev Go.Proofs Go.Shelf
set_option linter.unusedSimpArgs false
set_option linter.unusedVariables false
/-! ### The names of days and months -/
def dayL : List Value := [.string ⟨#[83, 117, 110, 100, 97, 121]⟩, .string ⟨#[77, 111, 110, 100, 97, 121]⟩, .string ⟨#[84, 117, 101, 115, 100, 97, 121]⟩, .string ⟨#[87, 101, 100, 110, 101, 115, 100, 97, 121]⟩, .string ⟨#[84, 104, 117, 114, 115, 100, 97, 121]⟩, .string ⟨#[70, 114, 105, 100, 97, 121]⟩, .string ⟨#[83, 97, 116, 117, 114, 100, 97, 121]⟩]
def monL : List Value := [.string ⟨#[74, 97, 110, 117, 97, 114, 121]⟩, .string ⟨#[70, 101, 98, 114, 117, 97, 114, 121]⟩, .string ⟨#[77, 97, 114, 99, 104]⟩, .string ⟨#[65, 112, 114, 105, 108]⟩, .string ⟨#[77, 97, 121]⟩, .string ⟨#[74, 117, 110, 101]⟩, .string ⟨#[74, 117, 108, 121]⟩, .string ⟨#[65, 117, 103, 117, 115, 116]⟩, .string ⟨#[83, 101, 112, 116, 101, 109, 98, 101, 114]⟩, .string ⟨#[79, 99, 116, 111, 98, 101, 114]⟩, .string ⟨#[78, 111, 118, 101, 109, 98, 101, 114]⟩, .string ⟨#[68, 101, 99, 101, 109, 98, 101, 114]⟩]
def atF (n : Int) : Nat := Nat.add 0 (Nat.mul n.toNat 1)
def dayF (W : Int) : ByteArray := nthS dayL (atF W)
def monF (M : Int) : ByteArray := nthS monL (atF M)
def d3F (s : ByteArray) : ByteArray := s.extract 0 3
theorem da_p (Y M D ho mi : Int) (S : Nat) (W J sec iy iw sn mn : Int) (h1 : (decide (0 ≤ W) && decide (W.toNat < 7)) = true) (h2 : isNthS dayL (atF W) = true) (h3 : ((decide ((0 : Int) ≤ 3) && decide ((3 : Int) ≤ (((dayF W).size : Nat) : Int))) && true) = true) : ∃ H' nx', evFunc (withFns cx0 laT lpE) 30 89 #[.agg #[.int .i64 Y, .int .i64 M, .int .i64 D, .int .i64 ho, .int .i64 mi, .float .f64 S, .int .i64 W, .int .i64 J, .int .i64 sec, .int .i64 iy, .int .i64 iw, .int .i64 sn, .int .i64 mn]] H0 12 = some (.string (d3F (dayF W)), H', nx') :=
  orc_sel (hkW laT lpE) (m := [false, true, true, true]) (l := [(decide (0 ≤ W) && decide (W.toNat < 7)), isNthS dayL (atF W), ((decide ((0 : Int) ≤ 3) && decide ((3 : Int) ≤ (((dayF W).size : Nat) : Int))) && true)]) (p := []) (by kernel_rfl) (by kernel_rfl) (by kernel_rfl) (forall_cons h1 (forall_cons h2 (forall_cons h3 forall_nil)))
def da0F (Y M D ho mi : Int) (S : Nat) (W J sec iy iw sn mn : Int) : ByteArray := (d3F (dayF W))
def daOkF (Y M D ho mi : Int) (S : Nat) (W J sec iy iw sn mn : Int) : Bool := decide (0 ≤ W) && decide (W ≤ 6)
theorem da_ev (Y M D ho mi : Int) (S : Nat) (W J sec iy iw sn mn : Int) (hok : daOkF Y M D ho mi S W J sec iy iw sn mn = true) : ∃ H' nx', evFunc (withFns cx0 laT lpE) 30 89 #[.agg #[.int .i64 Y, .int .i64 M, .int .i64 D, .int .i64 ho, .int .i64 mi, .float .f64 S, .int .i64 W, .int .i64 J, .int .i64 sec, .int .i64 iy, .int .i64 iw, .int .i64 sn, .int .i64 mn]] H0 12 = some (.string (da0F Y M D ho mi S W J sec iy iw sn mn), H', nx') := by
  unfold daOkF at hok
  simp only [Bool.and_eq_true, decide_eq_true_eq] at hok
  have h : W = 0 ∨ W = 1 ∨ W = 2 ∨ W = 3 ∨ W = 4 ∨ W = 5 ∨ W = 6 := by omega
  rcases h with rfl | rfl | rfl | rfl | rfl | rfl | rfl <;> exact da_p Y M D ho mi S _ J sec iy iw sn mn (by decide) (by decide) (by decide)
def daV (args : Array Value) : Option Value := match args.toList with
  | [.agg a0_] => match a0_.toList with | [.int .i64 Y, .int .i64 M, .int .i64 D, .int .i64 ho, .int .i64 mi, .float .f64 S, .int .i64 W, .int .i64 J, .int .i64 sec, .int .i64 iy, .int .i64 iw, .int .i64 sn, .int .i64 mn] => some (.string (da0F Y M D ho mi S W J sec iy iw sn mn)) | _ => none
  | _ => none
def daK (args : Array Value) : Bool := match args.toList with
  | [.agg a0_] => match a0_.toList with | [.int .i64 Y, .int .i64 M, .int .i64 D, .int .i64 ho, .int .i64 mi, .float .f64 S, .int .i64 W, .int .i64 J, .int .i64 sec, .int .i64 iy, .int .i64 iw, .int .i64 sn, .int .i64 mn] => (daOkF Y M D ho mi S W J sec iy iw sn mn == true) | _ => false
  | _ => false
def daA : AFn := { f := 89, val := daV, ok := daK }
theorem da_sound : PSound cx0 daA.pfn := psound_startW laT_sound lpE_sound fun args v h => by
  obtain ⟨hv, hk⟩ := afn_some h
  replace hv : daV args = some v := hv
  replace hk : daK args = true := hk
  unfold daV at hv
  split at hv
  · rename_i a0_ hx
    have ha := args_list hx
    subst ha
    split at hv
    · rename_i Y M D ho mi S W J sec iy iw sn mn hx0
      have ha0 := args_list hx0
      subst ha0
      cases hv
      have hok : daOkF Y M D ho mi S W J sec iy iw sn mn = true := by simpa [daK] using hk
      exact ⟨rfl, rfl, 30, da_ev Y M D ho mi S W J sec iy iw sn mn hok⟩
    · cases hv
  · cases hv
theorem dA_p (Y M D ho mi : Int) (S : Nat) (W J sec iy iw sn mn : Int) (h1 : (decide (0 ≤ W) && decide (W.toNat < 7)) = true) (h2 : isNthS dayL (atF W) = true) : ∃ H' nx', evFunc (withFns cx0 laT lpE) 30 91 #[.agg #[.int .i64 Y, .int .i64 M, .int .i64 D, .int .i64 ho, .int .i64 mi, .float .f64 S, .int .i64 W, .int .i64 J, .int .i64 sec, .int .i64 iy, .int .i64 iw, .int .i64 sn, .int .i64 mn]] H0 12 = some (.string (dayF W), H', nx') :=
  orc_sel (hkW laT lpE) (m := [false, true, true]) (l := [(decide (0 ≤ W) && decide (W.toNat < 7)), isNthS dayL (atF W)]) (p := []) (by kernel_rfl) (by kernel_rfl) (by kernel_rfl) (forall_cons h1 (forall_cons h2 forall_nil))
def dA0F (Y M D ho mi : Int) (S : Nat) (W J sec iy iw sn mn : Int) : ByteArray := (dayF W)
def dAOkF (Y M D ho mi : Int) (S : Nat) (W J sec iy iw sn mn : Int) : Bool := decide (0 ≤ W) && decide (W ≤ 6)
theorem dA_ev (Y M D ho mi : Int) (S : Nat) (W J sec iy iw sn mn : Int) (hok : dAOkF Y M D ho mi S W J sec iy iw sn mn = true) : ∃ H' nx', evFunc (withFns cx0 laT lpE) 30 91 #[.agg #[.int .i64 Y, .int .i64 M, .int .i64 D, .int .i64 ho, .int .i64 mi, .float .f64 S, .int .i64 W, .int .i64 J, .int .i64 sec, .int .i64 iy, .int .i64 iw, .int .i64 sn, .int .i64 mn]] H0 12 = some (.string (dA0F Y M D ho mi S W J sec iy iw sn mn), H', nx') := by
  unfold dAOkF at hok
  simp only [Bool.and_eq_true, decide_eq_true_eq] at hok
  have h : W = 0 ∨ W = 1 ∨ W = 2 ∨ W = 3 ∨ W = 4 ∨ W = 5 ∨ W = 6 := by omega
  rcases h with rfl | rfl | rfl | rfl | rfl | rfl | rfl <;> exact dA_p Y M D ho mi S _ J sec iy iw sn mn (by decide) (by decide)
def dAV (args : Array Value) : Option Value := match args.toList with
  | [.agg a0_] => match a0_.toList with | [.int .i64 Y, .int .i64 M, .int .i64 D, .int .i64 ho, .int .i64 mi, .float .f64 S, .int .i64 W, .int .i64 J, .int .i64 sec, .int .i64 iy, .int .i64 iw, .int .i64 sn, .int .i64 mn] => some (.string (dA0F Y M D ho mi S W J sec iy iw sn mn)) | _ => none
  | _ => none
def dAK (args : Array Value) : Bool := match args.toList with
  | [.agg a0_] => match a0_.toList with | [.int .i64 Y, .int .i64 M, .int .i64 D, .int .i64 ho, .int .i64 mi, .float .f64 S, .int .i64 W, .int .i64 J, .int .i64 sec, .int .i64 iy, .int .i64 iw, .int .i64 sn, .int .i64 mn] => (dAOkF Y M D ho mi S W J sec iy iw sn mn == true) | _ => false
  | _ => false
def dAA : AFn := { f := 91, val := dAV, ok := dAK }
theorem dA_sound : PSound cx0 dAA.pfn := psound_startW laT_sound lpE_sound fun args v h => by
  obtain ⟨hv, hk⟩ := afn_some h
  replace hv : dAV args = some v := hv
  replace hk : dAK args = true := hk
  unfold dAV at hv
  split at hv
  · rename_i a0_ hx
    have ha := args_list hx
    subst ha
    split at hv
    · rename_i Y M D ho mi S W J sec iy iw sn mn hx0
      have ha0 := args_list hx0
      subst ha0
      cases hv
      have hok : dAOkF Y M D ho mi S W J sec iy iw sn mn = true := by simpa [dAK] using hk
      exact ⟨rfl, rfl, 30, dA_ev Y M D ho mi S W J sec iy iw sn mn hok⟩
    · cases hv
  · cases hv
theorem dmon_p (Y M D ho mi : Int) (S : Nat) (W J sec iy iw sn mn : Int) (h1 : (decide (0 ≤ M) && decide (M.toNat < 12)) = true) (h2 : isNthS monL (atF M) = true) (h3 : ((decide ((0 : Int) ≤ 3) && decide ((3 : Int) ≤ (((monF M).size : Nat) : Int))) && true) = true) : ∃ H' nx', evFunc (withFns cx0 laT lpE) 30 86 #[.agg #[.int .i64 Y, .int .i64 M, .int .i64 D, .int .i64 ho, .int .i64 mi, .float .f64 S, .int .i64 W, .int .i64 J, .int .i64 sec, .int .i64 iy, .int .i64 iw, .int .i64 sn, .int .i64 mn]] H0 12 = some (.string (d3F (monF M)), H', nx') :=
  orc_sel (hkW laT lpE) (m := [false, true, true, true]) (l := [(decide (0 ≤ M) && decide (M.toNat < 12)), isNthS monL (atF M), ((decide ((0 : Int) ≤ 3) && decide ((3 : Int) ≤ (((monF M).size : Nat) : Int))) && true)]) (p := []) (by kernel_rfl) (by kernel_rfl) (by kernel_rfl) (forall_cons h1 (forall_cons h2 (forall_cons h3 forall_nil)))
def dmon0F (Y M D ho mi : Int) (S : Nat) (W J sec iy iw sn mn : Int) : ByteArray := (d3F (monF M))
def dmonOkF (Y M D ho mi : Int) (S : Nat) (W J sec iy iw sn mn : Int) : Bool := decide (0 ≤ M) && decide (M ≤ 11)
theorem dmon_ev (Y M D ho mi : Int) (S : Nat) (W J sec iy iw sn mn : Int) (hok : dmonOkF Y M D ho mi S W J sec iy iw sn mn = true) : ∃ H' nx', evFunc (withFns cx0 laT lpE) 30 86 #[.agg #[.int .i64 Y, .int .i64 M, .int .i64 D, .int .i64 ho, .int .i64 mi, .float .f64 S, .int .i64 W, .int .i64 J, .int .i64 sec, .int .i64 iy, .int .i64 iw, .int .i64 sn, .int .i64 mn]] H0 12 = some (.string (dmon0F Y M D ho mi S W J sec iy iw sn mn), H', nx') := by
  unfold dmonOkF at hok
  simp only [Bool.and_eq_true, decide_eq_true_eq] at hok
  have h : M = 0 ∨ M = 1 ∨ M = 2 ∨ M = 3 ∨ M = 4 ∨ M = 5 ∨ M = 6 ∨ M = 7 ∨ M = 8 ∨ M = 9 ∨ M = 10 ∨ M = 11 := by omega
  rcases h with rfl | rfl | rfl | rfl | rfl | rfl | rfl | rfl | rfl | rfl | rfl | rfl <;> exact dmon_p Y _ D ho mi S W J sec iy iw sn mn (by decide) (by decide) (by decide)
def dmonV (args : Array Value) : Option Value := match args.toList with
  | [.agg a0_] => match a0_.toList with | [.int .i64 Y, .int .i64 M, .int .i64 D, .int .i64 ho, .int .i64 mi, .float .f64 S, .int .i64 W, .int .i64 J, .int .i64 sec, .int .i64 iy, .int .i64 iw, .int .i64 sn, .int .i64 mn] => some (.string (dmon0F Y M D ho mi S W J sec iy iw sn mn)) | _ => none
  | _ => none
def dmonK (args : Array Value) : Bool := match args.toList with
  | [.agg a0_] => match a0_.toList with | [.int .i64 Y, .int .i64 M, .int .i64 D, .int .i64 ho, .int .i64 mi, .float .f64 S, .int .i64 W, .int .i64 J, .int .i64 sec, .int .i64 iy, .int .i64 iw, .int .i64 sn, .int .i64 mn] => (dmonOkF Y M D ho mi S W J sec iy iw sn mn == true) | _ => false
  | _ => false
def dmonA : AFn := { f := 86, val := dmonV, ok := dmonK }
theorem dmon_sound : PSound cx0 dmonA.pfn := psound_startW laT_sound lpE_sound fun args v h => by
  obtain ⟨hv, hk⟩ := afn_some h
  replace hv : dmonV args = some v := hv
  replace hk : dmonK args = true := hk
  unfold dmonV at hv
  split at hv
  · rename_i a0_ hx
    have ha := args_list hx
    subst ha
    split at hv
    · rename_i Y M D ho mi S W J sec iy iw sn mn hx0
      have ha0 := args_list hx0
      subst ha0
      cases hv
      have hok : dmonOkF Y M D ho mi S W J sec iy iw sn mn = true := by simpa [dmonK] using hk
      exact ⟨rfl, rfl, 30, dmon_ev Y M D ho mi S W J sec iy iw sn mn hok⟩
    · cases hv
  · cases hv
theorem dB_p (Y M D ho mi : Int) (S : Nat) (W J sec iy iw sn mn : Int) (h1 : (decide (0 ≤ M) && decide (M.toNat < 12)) = true) (h2 : isNthS monL (atF M) = true) : ∃ H' nx', evFunc (withFns cx0 laT lpE) 30 92 #[.agg #[.int .i64 Y, .int .i64 M, .int .i64 D, .int .i64 ho, .int .i64 mi, .float .f64 S, .int .i64 W, .int .i64 J, .int .i64 sec, .int .i64 iy, .int .i64 iw, .int .i64 sn, .int .i64 mn]] H0 12 = some (.string (monF M), H', nx') :=
  orc_sel (hkW laT lpE) (m := [false, true, true]) (l := [(decide (0 ≤ M) && decide (M.toNat < 12)), isNthS monL (atF M)]) (p := []) (by kernel_rfl) (by kernel_rfl) (by kernel_rfl) (forall_cons h1 (forall_cons h2 forall_nil))
def dB0F (Y M D ho mi : Int) (S : Nat) (W J sec iy iw sn mn : Int) : ByteArray := (monF M)
def dBOkF (Y M D ho mi : Int) (S : Nat) (W J sec iy iw sn mn : Int) : Bool := decide (0 ≤ M) && decide (M ≤ 11)
theorem dB_ev (Y M D ho mi : Int) (S : Nat) (W J sec iy iw sn mn : Int) (hok : dBOkF Y M D ho mi S W J sec iy iw sn mn = true) : ∃ H' nx', evFunc (withFns cx0 laT lpE) 30 92 #[.agg #[.int .i64 Y, .int .i64 M, .int .i64 D, .int .i64 ho, .int .i64 mi, .float .f64 S, .int .i64 W, .int .i64 J, .int .i64 sec, .int .i64 iy, .int .i64 iw, .int .i64 sn, .int .i64 mn]] H0 12 = some (.string (dB0F Y M D ho mi S W J sec iy iw sn mn), H', nx') := by
  unfold dBOkF at hok
  simp only [Bool.and_eq_true, decide_eq_true_eq] at hok
  have h : M = 0 ∨ M = 1 ∨ M = 2 ∨ M = 3 ∨ M = 4 ∨ M = 5 ∨ M = 6 ∨ M = 7 ∨ M = 8 ∨ M = 9 ∨ M = 10 ∨ M = 11 := by omega
  rcases h with rfl | rfl | rfl | rfl | rfl | rfl | rfl | rfl | rfl | rfl | rfl | rfl <;> exact dB_p Y _ D ho mi S W J sec iy iw sn mn (by decide) (by decide)
def dBV (args : Array Value) : Option Value := match args.toList with
  | [.agg a0_] => match a0_.toList with | [.int .i64 Y, .int .i64 M, .int .i64 D, .int .i64 ho, .int .i64 mi, .float .f64 S, .int .i64 W, .int .i64 J, .int .i64 sec, .int .i64 iy, .int .i64 iw, .int .i64 sn, .int .i64 mn] => some (.string (dB0F Y M D ho mi S W J sec iy iw sn mn)) | _ => none
  | _ => none
def dBK (args : Array Value) : Bool := match args.toList with
  | [.agg a0_] => match a0_.toList with | [.int .i64 Y, .int .i64 M, .int .i64 D, .int .i64 ho, .int .i64 mi, .float .f64 S, .int .i64 W, .int .i64 J, .int .i64 sec, .int .i64 iy, .int .i64 iw, .int .i64 sn, .int .i64 mn] => (dBOkF Y M D ho mi S W J sec iy iw sn mn == true) | _ => false
  | _ => false
def dBA : AFn := { f := 92, val := dBV, ok := dBK }
theorem dB_sound : PSound cx0 dBA.pfn := psound_startW laT_sound lpE_sound fun args v h => by
  obtain ⟨hv, hk⟩ := afn_some h
  replace hv : dBV args = some v := hv
  replace hk : dBK args = true := hk
  unfold dBV at hv
  split at hv
  · rename_i a0_ hx
    have ha := args_list hx
    subst ha
    split at hv
    · rename_i Y M D ho mi S W J sec iy iw sn mn hx0
      have ha0 := args_list hx0
      subst ha0
      cases hv
      have hok : dBOkF Y M D ho mi S W J sec iy iw sn mn = true := by simpa [dBK] using hk
      exact ⟨rfl, rfl, 30, dB_ev Y M D ho mi S W J sec iy iw sn mn hok⟩
    · cases hv
  · cases hv
end Go.Proofs.YthopphfehgdocaaGreatDoor
