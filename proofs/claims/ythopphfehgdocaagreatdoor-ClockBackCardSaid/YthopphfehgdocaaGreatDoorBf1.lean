import Derived.Test.YthopphfehgdocaaGreatDoorRef6
import Derived.Test.YthopphfehgdocaaGreatDoorOrd3
namespace Go.Proofs.YthopphfehgdocaaGreatDoor
open Go Go.RowKit Go.Ev Go.Proofs Go.Shelf
set_option linter.unusedSimpArgs false
set_option linter.unusedVariables false

theorem pad3_p0 (n : Int) (H : Hp) (nx : Nat) (h1 : ((decide (n < 0)) == false) = true) (h2 : ((i64F n) == true) = true) (h3 : ((repOkF (ByteArray.mk #[48]) (if ((IntKind.i64.wrap (3 - ((((ByteArray.size (itoaF n)) : Nat) : Int)))) > 0) then (IntKind.i64.wrap (3 - ((((ByteArray.size (itoaF n)) : Nat) : Int)))) else 0)) == true) = true) (h4 : (decide ((((((ByteArray.size (ByteArray.mk #[])) + (ByteArray.size (repF (ByteArray.mk #[48]) (if ((IntKind.i64.wrap (3 - ((((ByteArray.size (itoaF n)) : Nat) : Int)))) > 0) then (IntKind.i64.wrap (3 - ((((ByteArray.size (itoaF n)) : Nat) : Int)))) else 0)))) : Nat) : Int)) ≤ (Int.ofNat (9223372036854775808 - 1)))) = true) (h5 : (decide ((((((ByteArray.size ((ByteArray.mk #[]) ++ (repF (ByteArray.mk #[48]) (if ((IntKind.i64.wrap (3 - ((((ByteArray.size (itoaF n)) : Nat) : Int)))) > 0) then (IntKind.i64.wrap (3 - ((((ByteArray.size (itoaF n)) : Nat) : Int)))) else 0)))) + (ByteArray.size (itoaF n))) : Nat) : Int)) ≤ (Int.ofNat (9223372036854775808 - 1)))) = true) : evFunc (withFns cx0 laS lpE) 30 106 #[.int .i64 n, .int .i64 3, .string ⟨#[48]⟩] H nx = some ((Go.Value.string (((ByteArray.mk #[]) ++ (repF (ByteArray.mk #[48]) (if ((IntKind.i64.wrap (3 - ((((ByteArray.size (itoaF n)) : Nat) : Int)))) > 0) then (IntKind.i64.wrap (3 - ((((ByteArray.size (itoaF n)) : Nat) : Int)))) else 0))) ++ (itoaF n))), H, nx + 19) :=
  orc_sel_run ((hkW laS lpE)) (m := [true, true, true, true, true]) (l := [((decide (n < 0)) == false), ((i64F n) == true), ((repOkF (ByteArray.mk #[48]) (if ((IntKind.i64.wrap (3 - ((((ByteArray.size (itoaF n)) : Nat) : Int)))) > 0) then (IntKind.i64.wrap (3 - ((((ByteArray.size (itoaF n)) : Nat) : Int)))) else 0)) == true), (decide ((((((ByteArray.size (ByteArray.mk #[])) + (ByteArray.size (repF (ByteArray.mk #[48]) (if ((IntKind.i64.wrap (3 - ((((ByteArray.size (itoaF n)) : Nat) : Int)))) > 0) then (IntKind.i64.wrap (3 - ((((ByteArray.size (itoaF n)) : Nat) : Int)))) else 0)))) : Nat) : Int)) ≤ (Int.ofNat (9223372036854775808 - 1)))), (decide ((((((ByteArray.size ((ByteArray.mk #[]) ++ (repF (ByteArray.mk #[48]) (if ((IntKind.i64.wrap (3 - ((((ByteArray.size (itoaF n)) : Nat) : Int)))) > 0) then (IntKind.i64.wrap (3 - ((((ByteArray.size (itoaF n)) : Nat) : Int)))) else 0)))) + (ByteArray.size (itoaF n))) : Nat) : Int)) ≤ (Int.ofNat (9223372036854775808 - 1))))]) (p := [false]) (by kernel_rfl) (by kernel_rfl) (by kernel_rfl) (forall_cons h1 (forall_cons h2 (forall_cons h3 (forall_cons h4 (forall_cons h5 forall_nil)))))
def pad30F (n : Int) : ByteArray := (((ByteArray.mk #[]) ++ (repF (ByteArray.mk #[48]) (if ((IntKind.i64.wrap (3 - ((((ByteArray.size (itoaF n)) : Nat) : Int)))) > 0) then (IntKind.i64.wrap (3 - ((((ByteArray.size (itoaF n)) : Nat) : Int)))) else 0))) ++ (itoaF n))
def pad3OkF (n : Int) : Bool := ((!((decide (n < 0)))) && (((i64F n)) && (((repOkF (ByteArray.mk #[48]) (if ((IntKind.i64.wrap (3 - ((((ByteArray.size (itoaF n)) : Nat) : Int)))) > 0) then (IntKind.i64.wrap (3 - ((((ByteArray.size (itoaF n)) : Nat) : Int)))) else 0))) && (((decide ((((((ByteArray.size (ByteArray.mk #[])) + (ByteArray.size (repF (ByteArray.mk #[48]) (if ((IntKind.i64.wrap (3 - ((((ByteArray.size (itoaF n)) : Nat) : Int)))) > 0) then (IntKind.i64.wrap (3 - ((((ByteArray.size (itoaF n)) : Nat) : Int)))) else 0)))) : Nat) : Int)) ≤ (Int.ofNat (9223372036854775808 - 1))))) && (((decide ((((((ByteArray.size ((ByteArray.mk #[]) ++ (repF (ByteArray.mk #[48]) (if ((IntKind.i64.wrap (3 - ((((ByteArray.size (itoaF n)) : Nat) : Int)))) > 0) then (IntKind.i64.wrap (3 - ((((ByteArray.size (itoaF n)) : Nat) : Int)))) else 0)))) + (ByteArray.size (itoaF n))) : Nat) : Int)) ≤ (Int.ofNat (9223372036854775808 - 1))))) && true)))))
theorem pad3_ev (n : Int) (H : Hp) (nx : Nat) (hok : pad3OkF n = true) : ∃ k, evFunc (withFns cx0 laS lpE) 30 106 #[.int .i64 n, .int .i64 3, .string ⟨#[48]⟩] H nx = some ((Go.Value.string (pad30F n)), H, k) := by
  unfold pad3OkF at hok
  have c0_ : ((decide (n < 0))) = false := by
    simp only [Bool.and_eq_true, Bool.not_eq_true', cond_true, cond_false] at hok
    first | exact hok.1 | (simp only [Bool.not_eq_true']; exact hok.1)
  replace hok := by
    simp only [c0_, Bool.not_true, Bool.not_false, Bool.true_and, cond_true, cond_false] at hok
    exact hok
  have c1_ : ((i64F n)) = true := by
    simp only [c0_, Bool.and_eq_true, Bool.not_eq_true', cond_true, cond_false] at hok
    first | exact hok.1 | (simp only [Bool.not_eq_true']; exact hok.1)
  replace hok := by
    simp only [c0_, c1_, Bool.not_true, Bool.not_false, Bool.true_and, cond_true, cond_false] at hok
    exact hok
  have c2_ : ((repOkF (ByteArray.mk #[48]) (if ((IntKind.i64.wrap (3 - ((((ByteArray.size (itoaF n)) : Nat) : Int)))) > 0) then (IntKind.i64.wrap (3 - ((((ByteArray.size (itoaF n)) : Nat) : Int)))) else 0))) = true := by
    simp only [c0_, c1_, Bool.and_eq_true, Bool.not_eq_true', cond_true, cond_false] at hok
    first | exact hok.1 | (simp only [Bool.not_eq_true']; exact hok.1)
  replace hok := by
    simp only [c0_, c1_, c2_, Bool.not_true, Bool.not_false, Bool.true_and, cond_true, cond_false] at hok
    exact hok
  have c3_ : ((decide ((((((ByteArray.size (ByteArray.mk #[])) + (ByteArray.size (repF (ByteArray.mk #[48]) (if ((IntKind.i64.wrap (3 - ((((ByteArray.size (itoaF n)) : Nat) : Int)))) > 0) then (IntKind.i64.wrap (3 - ((((ByteArray.size (itoaF n)) : Nat) : Int)))) else 0)))) : Nat) : Int)) ≤ (Int.ofNat (9223372036854775808 - 1))))) = true := by
    simp only [c0_, c1_, c2_, Bool.and_eq_true, Bool.not_eq_true', cond_true, cond_false] at hok
    first | exact hok.1 | (simp only [Bool.not_eq_true']; exact hok.1)
  replace hok := by
    simp only [c0_, c1_, c2_, c3_, Bool.not_true, Bool.not_false, Bool.true_and, cond_true, cond_false] at hok
    exact hok
  have c4_ : ((decide ((((((ByteArray.size ((ByteArray.mk #[]) ++ (repF (ByteArray.mk #[48]) (if ((IntKind.i64.wrap (3 - ((((ByteArray.size (itoaF n)) : Nat) : Int)))) > 0) then (IntKind.i64.wrap (3 - ((((ByteArray.size (itoaF n)) : Nat) : Int)))) else 0)))) + (ByteArray.size (itoaF n))) : Nat) : Int)) ≤ (Int.ofNat (9223372036854775808 - 1))))) = true := by
    simp only [c0_, c1_, c2_, c3_, Bool.and_eq_true, Bool.not_eq_true', cond_true, cond_false] at hok
    first | exact hok.1 | (simp only [Bool.not_eq_true']; exact hok.1)
  replace hok := by
    simp only [c0_, c1_, c2_, c3_, c4_, Bool.not_true, Bool.not_false, Bool.true_and, cond_true, cond_false] at hok
    exact hok
  unfold pad30F
  try simp only [c0_, c1_, c2_, c3_, c4_, cond_true, cond_false]
  exact ⟨_, pad3_p0 n H nx (by rw [c0_]; rfl) (by rw [c1_]; rfl) (by rw [c2_]; rfl) c3_ c4_⟩
theorem pad2_p0 (n : Int) (H : Hp) (nx : Nat) (h1 : ((decide (n < 0)) == false) = true) (h2 : ((i64F n) == true) = true) (h3 : ((repOkF (ByteArray.mk #[32]) (if ((IntKind.i64.wrap (2 - ((((ByteArray.size (itoaF n)) : Nat) : Int)))) > 0) then (IntKind.i64.wrap (2 - ((((ByteArray.size (itoaF n)) : Nat) : Int)))) else 0)) == true) = true) (h4 : (decide ((((((ByteArray.size (ByteArray.mk #[])) + (ByteArray.size (repF (ByteArray.mk #[32]) (if ((IntKind.i64.wrap (2 - ((((ByteArray.size (itoaF n)) : Nat) : Int)))) > 0) then (IntKind.i64.wrap (2 - ((((ByteArray.size (itoaF n)) : Nat) : Int)))) else 0)))) : Nat) : Int)) ≤ (Int.ofNat (9223372036854775808 - 1)))) = true) (h5 : (decide ((((((ByteArray.size ((ByteArray.mk #[]) ++ (repF (ByteArray.mk #[32]) (if ((IntKind.i64.wrap (2 - ((((ByteArray.size (itoaF n)) : Nat) : Int)))) > 0) then (IntKind.i64.wrap (2 - ((((ByteArray.size (itoaF n)) : Nat) : Int)))) else 0)))) + (ByteArray.size (itoaF n))) : Nat) : Int)) ≤ (Int.ofNat (9223372036854775808 - 1)))) = true) : evFunc (withFns cx0 laS lpE) 30 106 #[.int .i64 n, .int .i64 2, .string ⟨#[32]⟩] H nx = some ((Go.Value.string (((ByteArray.mk #[]) ++ (repF (ByteArray.mk #[32]) (if ((IntKind.i64.wrap (2 - ((((ByteArray.size (itoaF n)) : Nat) : Int)))) > 0) then (IntKind.i64.wrap (2 - ((((ByteArray.size (itoaF n)) : Nat) : Int)))) else 0))) ++ (itoaF n))), H, nx + 19) :=
  orc_sel_run ((hkW laS lpE)) (m := [true, true, true, true, true]) (l := [((decide (n < 0)) == false), ((i64F n) == true), ((repOkF (ByteArray.mk #[32]) (if ((IntKind.i64.wrap (2 - ((((ByteArray.size (itoaF n)) : Nat) : Int)))) > 0) then (IntKind.i64.wrap (2 - ((((ByteArray.size (itoaF n)) : Nat) : Int)))) else 0)) == true), (decide ((((((ByteArray.size (ByteArray.mk #[])) + (ByteArray.size (repF (ByteArray.mk #[32]) (if ((IntKind.i64.wrap (2 - ((((ByteArray.size (itoaF n)) : Nat) : Int)))) > 0) then (IntKind.i64.wrap (2 - ((((ByteArray.size (itoaF n)) : Nat) : Int)))) else 0)))) : Nat) : Int)) ≤ (Int.ofNat (9223372036854775808 - 1)))), (decide ((((((ByteArray.size ((ByteArray.mk #[]) ++ (repF (ByteArray.mk #[32]) (if ((IntKind.i64.wrap (2 - ((((ByteArray.size (itoaF n)) : Nat) : Int)))) > 0) then (IntKind.i64.wrap (2 - ((((ByteArray.size (itoaF n)) : Nat) : Int)))) else 0)))) + (ByteArray.size (itoaF n))) : Nat) : Int)) ≤ (Int.ofNat (9223372036854775808 - 1))))]) (p := [false]) (by kernel_rfl) (by kernel_rfl) (by kernel_rfl) (forall_cons h1 (forall_cons h2 (forall_cons h3 (forall_cons h4 (forall_cons h5 forall_nil)))))
def pad20F (n : Int) : ByteArray := (((ByteArray.mk #[]) ++ (repF (ByteArray.mk #[32]) (if ((IntKind.i64.wrap (2 - ((((ByteArray.size (itoaF n)) : Nat) : Int)))) > 0) then (IntKind.i64.wrap (2 - ((((ByteArray.size (itoaF n)) : Nat) : Int)))) else 0))) ++ (itoaF n))
def pad2OkF (n : Int) : Bool := ((!((decide (n < 0)))) && (((i64F n)) && (((repOkF (ByteArray.mk #[32]) (if ((IntKind.i64.wrap (2 - ((((ByteArray.size (itoaF n)) : Nat) : Int)))) > 0) then (IntKind.i64.wrap (2 - ((((ByteArray.size (itoaF n)) : Nat) : Int)))) else 0))) && (((decide ((((((ByteArray.size (ByteArray.mk #[])) + (ByteArray.size (repF (ByteArray.mk #[32]) (if ((IntKind.i64.wrap (2 - ((((ByteArray.size (itoaF n)) : Nat) : Int)))) > 0) then (IntKind.i64.wrap (2 - ((((ByteArray.size (itoaF n)) : Nat) : Int)))) else 0)))) : Nat) : Int)) ≤ (Int.ofNat (9223372036854775808 - 1))))) && (((decide ((((((ByteArray.size ((ByteArray.mk #[]) ++ (repF (ByteArray.mk #[32]) (if ((IntKind.i64.wrap (2 - ((((ByteArray.size (itoaF n)) : Nat) : Int)))) > 0) then (IntKind.i64.wrap (2 - ((((ByteArray.size (itoaF n)) : Nat) : Int)))) else 0)))) + (ByteArray.size (itoaF n))) : Nat) : Int)) ≤ (Int.ofNat (9223372036854775808 - 1))))) && true)))))
theorem pad2_ev (n : Int) (H : Hp) (nx : Nat) (hok : pad2OkF n = true) : ∃ k, evFunc (withFns cx0 laS lpE) 30 106 #[.int .i64 n, .int .i64 2, .string ⟨#[32]⟩] H nx = some ((Go.Value.string (pad20F n)), H, k) := by
  unfold pad2OkF at hok
  have c0_ : ((decide (n < 0))) = false := by
    simp only [Bool.and_eq_true, Bool.not_eq_true', cond_true, cond_false] at hok
    first | exact hok.1 | (simp only [Bool.not_eq_true']; exact hok.1)
  replace hok := by
    simp only [c0_, Bool.not_true, Bool.not_false, Bool.true_and, cond_true, cond_false] at hok
    exact hok
  have c1_ : ((i64F n)) = true := by
    simp only [c0_, Bool.and_eq_true, Bool.not_eq_true', cond_true, cond_false] at hok
    first | exact hok.1 | (simp only [Bool.not_eq_true']; exact hok.1)
  replace hok := by
    simp only [c0_, c1_, Bool.not_true, Bool.not_false, Bool.true_and, cond_true, cond_false] at hok
    exact hok
  have c2_ : ((repOkF (ByteArray.mk #[32]) (if ((IntKind.i64.wrap (2 - ((((ByteArray.size (itoaF n)) : Nat) : Int)))) > 0) then (IntKind.i64.wrap (2 - ((((ByteArray.size (itoaF n)) : Nat) : Int)))) else 0))) = true := by
    simp only [c0_, c1_, Bool.and_eq_true, Bool.not_eq_true', cond_true, cond_false] at hok
    first | exact hok.1 | (simp only [Bool.not_eq_true']; exact hok.1)
  replace hok := by
    simp only [c0_, c1_, c2_, Bool.not_true, Bool.not_false, Bool.true_and, cond_true, cond_false] at hok
    exact hok
  have c3_ : ((decide ((((((ByteArray.size (ByteArray.mk #[])) + (ByteArray.size (repF (ByteArray.mk #[32]) (if ((IntKind.i64.wrap (2 - ((((ByteArray.size (itoaF n)) : Nat) : Int)))) > 0) then (IntKind.i64.wrap (2 - ((((ByteArray.size (itoaF n)) : Nat) : Int)))) else 0)))) : Nat) : Int)) ≤ (Int.ofNat (9223372036854775808 - 1))))) = true := by
    simp only [c0_, c1_, c2_, Bool.and_eq_true, Bool.not_eq_true', cond_true, cond_false] at hok
    first | exact hok.1 | (simp only [Bool.not_eq_true']; exact hok.1)
  replace hok := by
    simp only [c0_, c1_, c2_, c3_, Bool.not_true, Bool.not_false, Bool.true_and, cond_true, cond_false] at hok
    exact hok
  have c4_ : ((decide ((((((ByteArray.size ((ByteArray.mk #[]) ++ (repF (ByteArray.mk #[32]) (if ((IntKind.i64.wrap (2 - ((((ByteArray.size (itoaF n)) : Nat) : Int)))) > 0) then (IntKind.i64.wrap (2 - ((((ByteArray.size (itoaF n)) : Nat) : Int)))) else 0)))) + (ByteArray.size (itoaF n))) : Nat) : Int)) ≤ (Int.ofNat (9223372036854775808 - 1))))) = true := by
    simp only [c0_, c1_, c2_, c3_, Bool.and_eq_true, Bool.not_eq_true', cond_true, cond_false] at hok
    first | exact hok.1 | (simp only [Bool.not_eq_true']; exact hok.1)
  replace hok := by
    simp only [c0_, c1_, c2_, c3_, c4_, Bool.not_true, Bool.not_false, Bool.true_and, cond_true, cond_false] at hok
    exact hok
  unfold pad20F
  try simp only [c0_, c1_, c2_, c3_, c4_, cond_true, cond_false]
  exact ⟨_, pad2_p0 n H nx (by rw [c0_]; rfl) (by rw [c1_]; rfl) (by rw [c2_]; rfl) c3_ c4_⟩
end Go.Proofs.YthopphfehgdocaaGreatDoor
namespace Go.Proofs.YthopphfehgdocaaGreatDoor
open Go Go.RowKit Go.Ev Go.Proofs Go.Shelf
set_option linter.unusedSimpArgs false
set_option linter.unusedVariables false
/-! ### What Format calls, byte by byte -/
theorem itoa_three {n : Int} (h0 : 100 ≤ n) (h1 : n < 1000) : itoaF n = ⟨#[dgF (n / 100), dgF (n / 10 % 10), dgF (n % 10)]⟩ := by
  unfold itoaF Lib.itoa
  rw [if_neg (by omega), dec2 (by omega), dec2 (by omega), dec1 (by omega)]
  have e1 : n.toNat / 10 / 10 = (n / 100).toNat := by omega
  have e3 : n.toNat / 10 % 10 = (n / 10 % 10).toNat := by omega
  have e4 : n.toNat % 10 = (n % 10).toNat := by omega
  rw [e1, e3, e4]
  rfl
def spF (n : Int) : UInt8 := if n < 10 then 32 else dgF (n / 10)
theorem pad3_val {n : Int} (h0 : 0 ≤ n) (h1 : n ≤ 999) : pad30F n = ⟨#[dgF (n / 100), dgF (n / 10 % 10), dgF (n % 10)]⟩ ∧ pad3OkF n = true := by
  have d0 : decide (n < 0) = false := decide_eq_false (by omega)
  have i0 : i64F n = true := by
    unfold i64F
    simp only [Bool.and_eq_true, decide_eq_true_eq]
    omega
  by_cases h : n < 10
  · have e := itoa_one h0 h
    have hd : n / 100 = 0 := by omega
    have hd2 : n / 10 % 10 = 0 := by omega
    have hm : n % 10 = n := by omega
    constructor
    · simp only [pad30F, e, hd, hd2, hm]
      kernel_rfl
    · simp only [pad3OkF, d0, i0, e]
      kernel_rfl
  · by_cases h2 : n < 100
    · have e := itoa_two (n := n) (by omega) (by omega)
      have hd : n / 100 = 0 := by omega
      have hd2 : n / 10 % 10 = n / 10 := by omega
      constructor
      · simp only [pad30F, e, hd, hd2]
        kernel_rfl
      · simp only [pad3OkF, d0, i0, e]
        kernel_rfl
    · have e := itoa_three (n := n) (by omega) (by omega)
      constructor
      · simp only [pad30F, e]
        kernel_rfl
      · simp only [pad3OkF, d0, i0, e]
        kernel_rfl
theorem pad2_val {n : Int} (h0 : 0 ≤ n) (h1 : n ≤ 99) : pad20F n = ⟨#[spF n, dgF (n % 10)]⟩ ∧ pad2OkF n = true := by
  have d0 : decide (n < 0) = false := decide_eq_false (by omega)
  have i0 : i64F n = true := by
    unfold i64F
    simp only [Bool.and_eq_true, decide_eq_true_eq]
    omega
  unfold spF
  by_cases h : n < 10
  · have e := itoa_one h0 h
    have hm : n % 10 = n := by omega
    rw [if_pos h]
    constructor
    · simp only [pad20F, e, hm]
      kernel_rfl
    · simp only [pad2OkF, d0, i0, e]
      kernel_rfl
  · have e := itoa_two (n := n) (by omega) (by omega)
    rw [if_neg h]
    constructor
    · simp only [pad20F, e]
      kernel_rfl
    · simp only [pad2OkF, d0, i0, e]
      kernel_rfl
def zeroL : List UInt8 := [48]
def padV (args : Array Value) : Option Value := match args.toList with
  | [.int .i64 n, .int .i64 w, .string s] => if w = 3 ∧ s.data.toList = [48] then some (.string ⟨#[dgF (n / 100), dgF (n / 10 % 10), dgF (n % 10)]⟩) else if w = 2 ∧ s.data.toList = [32] then some (.string ⟨#[spF n, dgF (n % 10)]⟩) else none
  | _ => none
def padOkF (n w : Int) : Bool := decide (0 ≤ n) && decide (n ≤ if w = 3 then 999 else 99)
def padK (args : Array Value) : Bool := match args.toList with
  | [.int .i64 n, .int .i64 w, .string s] => padOkF n w == true
  | _ => false
def padA : AFn := { f := 106, val := padV, ok := padK }
theorem pad_sound : PSound cx0 padA.pfn := psound_of_evW cx_ok laS_sound lpE_sound fun args v h H nx => by
  obtain ⟨hv, hk⟩ := afn_some h
  replace hv : padV args = some v := hv
  replace hk : padK args = true := hk
  unfold padV at hv
  split at hv
  · rename_i n w s hx
    have ha := args_list hx
    subst ha
    have hok : padOkF n w = true := by simpa [padK] using hk
    unfold padOkF at hok
    simp only [Bool.and_eq_true, decide_eq_true_eq] at hok
    split at hv
    · rename_i hw
      obtain ⟨rfl, hs⟩ := hw
      have hs2 : s = ⟨#[48]⟩ := by
        apply ByteArray.ext
        exact Array.toList_inj.1 hs
      subst hs2
      cases hv
      obtain ⟨e1, e2⟩ := pad3_val hok.1 hok.2
      obtain ⟨k, e⟩ := pad3_ev n H nx e2
      exact ⟨30, k, by rw [e1] at e; exact e⟩
    · rename_i hn
      split at hv
      · rename_i hw
        obtain ⟨rfl, hs⟩ := hw
        have hs2 : s = ⟨#[32]⟩ := by
          apply ByteArray.ext
          exact Array.toList_inj.1 hs
        subst hs2
        cases hv
        obtain ⟨e1, e2⟩ := pad2_val hok.1 hok.2
        obtain ⟨k, e⟩ := pad2_ev n H nx e2
        exact ⟨30, k, by rw [e1] at e; exact e⟩
      · cases hv
  · cases hv
def dnF (W : Int) (i : Nat) : UInt8 := ((d3F (dayF W)).data.toList[i]?).getD 0
def mnF (M : Int) (i : Nat) : UInt8 := ((d3F (monF M)).data.toList[i]?).getD 0
theorem dn_eq {W : Int} (h0 : 0 ≤ W) (h1 : W ≤ 6) : d3F (dayF W) = ⟨#[dnF W 0, dnF W 1, dnF W 2]⟩ := by
  have h : W = 0 ∨ W = 1 ∨ W = 2 ∨ W = 3 ∨ W = 4 ∨ W = 5 ∨ W = 6 := by omega
  rcases h with rfl | rfl | rfl | rfl | rfl | rfl | rfl <;> decide +kernel
theorem mn_eq {M : Int} (h0 : 0 ≤ M) (h1 : M ≤ 11) : d3F (monF M) = ⟨#[mnF M 0, mnF M 1, mnF M 2]⟩ := by
  have h : M = 0 ∨ M = 1 ∨ M = 2 ∨ M = 3 ∨ M = 4 ∨ M = 5 ∨ M = 6 ∨ M = 7 ∨ M = 8 ∨ M = 9 ∨ M = 10 ∨ M = 11 := by omega
  rcases h with rfl | rfl | rfl | rfl | rfl | rfl | rfl | rfl | rfl | rfl | rfl | rfl <;> decide +kernel
end Go.Proofs.YthopphfehgdocaaGreatDoor
namespace Go.Proofs.YthopphfehgdocaaGreatDoor
open Go Go.RowKit Go.Ev Go.Proofs Go.Shelf
set_option linter.unusedSimpArgs false
set_option linter.unusedVariables false
def da3KF (W : Int) : Bool := decide (0 ≤ W) && decide (W ≤ 6)
def da3V (args : Array Value) : Option Value := match args.toList with
  | [.agg a] => match a.toList with
    | [.int .i64 Y, .int .i64 M, .int .i64 D, .int .i64 ho, .int .i64 mi, .float .f64 S, .int .i64 W, .int .i64 J, .int .i64 sec, .int .i64 iy, .int .i64 iw, .int .i64 sn, .int .i64 mn] => some (.string ⟨#[dnF W 0, dnF W 1, dnF W 2]⟩)
    | _ => none
  | _ => none
def da3K (args : Array Value) : Bool := match args.toList with
  | [.agg a] => match a.toList with
    | [.int .i64 Y, .int .i64 M, .int .i64 D, .int .i64 ho, .int .i64 mi, .float .f64 S, .int .i64 W, .int .i64 J, .int .i64 sec, .int .i64 iy, .int .i64 iw, .int .i64 sn, .int .i64 mn] => da3KF W == true
    | _ => false
  | _ => false
def da3A : AFn := { f := 89, val := da3V, ok := da3K }
theorem da3_sound : PSound cx0 da3A.pfn := psound_narrow (e := daA.pfn) rfl (fun args v h => by
  obtain ⟨hv, hk⟩ := afn_some h
  replace hv : da3V args = some v := hv
  replace hk : da3K args = true := hk
  unfold da3V at hv
  split at hv
  · rename_i a hx
    have ha := args_list hx
    subst ha
    split at hv
    · rename_i Y M D ho mi S W J sec iy iw sn mn hx2
      have ha2 := args_list hx2
      subst ha2
      cases hv
      have hok : da3KF W = true := by simpa [da3K] using hk
      have hok' := hok
      unfold da3KF at hok'
      simp only [Bool.and_eq_true, decide_eq_true_eq] at hok'
      refine AFn.p_of ?_ ?_
      · show some (Value.string (da0F Y M D ho mi S W J sec iy iw sn mn)) = _
        unfold da0F
        rw [dn_eq hok'.1 hok'.2]
      · show (daOkF Y M D ho mi S W J sec iy iw sn mn == true) = true
        show ((decide (0 ≤ W) && decide (W ≤ 6)) == true) = true
        unfold da3KF at hok
        rw [hok]; rfl
    · cases hv
  · cases hv) da_sound
def dm3KF (M : Int) : Bool := decide (0 ≤ M) && decide (M ≤ 11)
def dm3V (args : Array Value) : Option Value := match args.toList with
  | [.agg a] => match a.toList with
    | [.int .i64 Y, .int .i64 M, .int .i64 D, .int .i64 ho, .int .i64 mi, .float .f64 S, .int .i64 W, .int .i64 J, .int .i64 sec, .int .i64 iy, .int .i64 iw, .int .i64 sn, .int .i64 mn] => some (.string ⟨#[mnF M 0, mnF M 1, mnF M 2]⟩)
    | _ => none
  | _ => none
def dm3K (args : Array Value) : Bool := match args.toList with
  | [.agg a] => match a.toList with
    | [.int .i64 Y, .int .i64 M, .int .i64 D, .int .i64 ho, .int .i64 mi, .float .f64 S, .int .i64 W, .int .i64 J, .int .i64 sec, .int .i64 iy, .int .i64 iw, .int .i64 sn, .int .i64 mn] => dm3KF M == true
    | _ => false
  | _ => false
def dm3A : AFn := { f := 86, val := dm3V, ok := dm3K }
theorem dm3_sound : PSound cx0 dm3A.pfn := psound_narrow (e := dmonA.pfn) rfl (fun args v h => by
  obtain ⟨hv, hk⟩ := afn_some h
  replace hv : dm3V args = some v := hv
  replace hk : dm3K args = true := hk
  unfold dm3V at hv
  split at hv
  · rename_i a hx
    have ha := args_list hx
    subst ha
    split at hv
    · rename_i Y M D ho mi S W J sec iy iw sn mn hx2
      have ha2 := args_list hx2
      subst ha2
      cases hv
      have hok : dm3KF M = true := by simpa [dm3K] using hk
      have hok' := hok
      unfold dm3KF at hok'
      simp only [Bool.and_eq_true, decide_eq_true_eq] at hok'
      refine AFn.p_of ?_ ?_
      · show some (Value.string (dmon0F Y M D ho mi S W J sec iy iw sn mn)) = _
        unfold dmon0F
        rw [mn_eq hok'.1 hok'.2]
      · show (dmonOkF Y M D ho mi S W J sec iy iw sn mn == true) = true
        show ((decide (0 ≤ M) && decide (M ≤ 11)) == true) = true
        unfold dm3KF at hok
        rw [hok]; rfl
    · cases hv
  · cases hv) dmon_sound
def laF : List AFn := [norm2A, itoa4A, two2A, padA, da3A, dm3A]
theorem laF_sound : ∀ e ∈ laF, PSound cx0 e.pfn := asound_cons norm2_sound (asound_cons itoa4_sound (asound_cons two2_sound (asound_cons pad_sound (asound_cons da3_sound (asound_cons dm3_sound asound_nil)))))
def fb1 : ByteArray := ⟨#[37, 89, 45, 37, 109, 45, 37, 100, 32, 37, 72, 58, 37, 77, 58, 37, 83]⟩
def fb2 : ByteArray := ⟨#[37, 99]⟩
def fb3 : ByteArray := ⟨#[37, 115]⟩
def fb4 : ByteArray := ⟨#[37, 100, 47, 37, 98, 47, 37, 89, 32, 37, 73, 58, 37, 77, 58, 37, 83, 37, 112, 32, 37, 122]⟩
def fb5 : ByteArray := ⟨#[37, 106, 32, 37, 89, 32, 37, 84]⟩
def fb6 : ByteArray := ⟨#[37, 67, 37, 121, 37, 109, 37, 100, 84, 37, 72, 37, 77, 37, 83]⟩
end Go.Proofs.YthopphfehgdocaaGreatDoor
