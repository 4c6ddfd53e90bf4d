import Derived.Test.YthopphfehgdocaaGreatDoorBkB
import Derived.Test.YthopphfehgdocaaGreatDoorBk5
namespace Go.Proofs.YthopphfehgdocaaGreatDoor
open Go Go.RowKit Go.Ev Go.Proofs Go.Shelf
set_option linter.unusedSimpArgs false
set_option linter.unusedVariables false
def digL : Nat → Int → List (Fin 10)
  | 0, _ => []
  | l + 1, n => digL l (n / 10) ++ [fd (n % 10)]
theorem lit_dig : ∀ (l : Nat) (n : Int), litL l n = (digL l n).map dkF
  | 0, _ => rfl
  | l + 1, n => by
    show litL l (n / 10) ++ [dgF (n % 10)] = (digL l (n / 10) ++ [fd (n % 10)]).map dkF
    rw [lit_dig l (n / 10), List.map_append]
    rw [List.map_cons, List.map_nil, dk_fd (by omega) (by omega)]
theorem fold_dig : ∀ (l : Nat) (n : Int), 0 ≤ n → n < 10 ^ l → l ≤ 12 → (digL l n).foldl nxt 0 = n
  | 0, n, h0, h1, _ => by
    have : n < 1 := h1
    show (0 : Int) = n
    omega
  | l + 1, n, h0, h1, h2 => by
    have hp : (10 : Int) ^ (l + 1) = 10 * 10 ^ l := by rw [Int.pow_succ, Int.mul_comm]
    have hb : (10 : Int) ^ l ≤ 10 ^ 12 := by
      have : (10 : Nat) ^ l ≤ 10 ^ 12 := Nat.pow_le_pow_right (by decide) (by omega)
      exact_mod_cast this
    have e12 : (10 : Int) ^ 12 = 1000000000000 := by decide
    show (digL l (n / 10) ++ [fd (n % 10)]).foldl nxt 0 = n
    rw [List.foldl_append, fold_dig l (n / 10) (by omega) (by omega) (by omega)]
    show nxt (n / 10) (fd (n % 10)) = n
    rw [nxt_fd (by omega) (by omega) (by omega) (by omega)]
    omega
def q0 (n : Int) : Fin 10 := fd (n % 10)
def q1 (n : Int) : Fin 10 := fd (n / 10 % 10)
def q2 (n : Int) : Fin 10 := fd (n / 10 / 10 % 10)
def q3 (n : Int) : Fin 10 := fd (n / 10 / 10 / 10 % 10)
def q4 (n : Int) : Fin 10 := fd (n / 10 / 10 / 10 / 10 % 10)
def q5 (n : Int) : Fin 10 := fd (n / 10 / 10 / 10 / 10 / 10 % 10)
def q6 (n : Int) : Fin 10 := fd (n / 10 / 10 / 10 / 10 / 10 / 10 % 10)
def q7 (n : Int) : Fin 10 := fd (n / 10 / 10 / 10 / 10 / 10 / 10 / 10 % 10)
def q8 (n : Int) : Fin 10 := fd (n / 10 / 10 / 10 / 10 / 10 / 10 / 10 / 10 % 10)
def q9 (n : Int) : Fin 10 := fd (n / 10 / 10 / 10 / 10 / 10 / 10 / 10 / 10 / 10 % 10)
def q10 (n : Int) : Fin 10 := fd (n / 10 / 10 / 10 / 10 / 10 / 10 / 10 / 10 / 10 / 10 % 10)
def q11 (n : Int) : Fin 10 := fd (n / 10 / 10 / 10 / 10 / 10 / 10 / 10 / 10 / 10 / 10 / 10 % 10)
set_option maxRecDepth 100000 in
theorem ev3_3p0 {n : Int} (n1 : -377705116800 ≤ n) (n2 : n ≤ 253402300799) (ok : itsOkF false 0 n = true) : ∃ H' nx', evFunc (withB laP lpP) 120 13 #[.string (txF 3 n), .string fb3] H0 12 = some (splV (Clk.fo n), H', nx') := by
  have fs : ((fsecF (FloatKind.nearest FloatKind.f64 n)) == true) = true := by rw [Clk.near_fo, fsec_of n1 n2]; rfl
  have ok2 := ok
  unfold itsOkF at ok2
  simp only [Bool.and_eq_true, decide_eq_true_eq] at ok2
  have c : (nxt 0 (q0 n)) = n := fold_dig 1 n (by omega) (by have := ok2.2.1; omega) (by decide)
  have tx : txF 3 n = ⟨#[dkF (q0 n)]⟩ := by
    show itoaF n = _
    rw [itoa_lit ok]
    unfold litS
    simp only
    rw [lit_dig]
    rfl
  have e := par3p0 (q0 n) (pl3p0_ok (by unfold ul3p0; exact forall_cons (by rw [c]; exact fs) forall_nil))
  have hx : px3p0 (q0 n) = Clk.fo n := by
    unfold px3p0
    rw [c]
    rfl
  rw [hx] at e
  rw [tx]
  exact e

set_option maxRecDepth 100000 in
theorem ev3_3p1 {n : Int} (n1 : -377705116800 ≤ n) (n2 : n ≤ 253402300799) (ok : itsOkF false 1 n = true) : ∃ H' nx', evFunc (withB laP lpP) 120 13 #[.string (txF 3 n), .string fb3] H0 12 = some (splV (Clk.fo n), H', nx') := by
  have fs : ((fsecF (FloatKind.nearest FloatKind.f64 n)) == true) = true := by rw [Clk.near_fo, fsec_of n1 n2]; rfl
  have ok2 := ok
  unfold itsOkF at ok2
  simp only [Bool.and_eq_true, decide_eq_true_eq] at ok2
  have c : (nxt (nxt 0 (q1 n)) (q0 n)) = n := fold_dig 2 n (by omega) (by have := ok2.2.1; omega) (by decide)
  have tx : txF 3 n = ⟨#[dkF (q1 n), dkF (q0 n)]⟩ := by
    show itoaF n = _
    rw [itoa_lit ok]
    unfold litS
    simp only
    rw [lit_dig]
    rfl
  have e := par3p1 (q1 n) (q0 n) (pl3p1_ok (by unfold ul3p1; exact forall_cons (by rw [c]; exact fs) forall_nil))
  have hx : px3p1 (q1 n) (q0 n) = Clk.fo n := by
    unfold px3p1
    rw [c]
    rfl
  rw [hx] at e
  rw [tx]
  exact e

set_option maxRecDepth 100000 in
theorem ev3_3p2 {n : Int} (n1 : -377705116800 ≤ n) (n2 : n ≤ 253402300799) (ok : itsOkF false 2 n = true) : ∃ H' nx', evFunc (withB laP lpP) 120 13 #[.string (txF 3 n), .string fb3] H0 12 = some (splV (Clk.fo n), H', nx') := by
  have fs : ((fsecF (FloatKind.nearest FloatKind.f64 n)) == true) = true := by rw [Clk.near_fo, fsec_of n1 n2]; rfl
  have ok2 := ok
  unfold itsOkF at ok2
  simp only [Bool.and_eq_true, decide_eq_true_eq] at ok2
  have c : (nxt (nxt (nxt 0 (q2 n)) (q1 n)) (q0 n)) = n := fold_dig 3 n (by omega) (by have := ok2.2.1; omega) (by decide)
  have tx : txF 3 n = ⟨#[dkF (q2 n), dkF (q1 n), dkF (q0 n)]⟩ := by
    show itoaF n = _
    rw [itoa_lit ok]
    unfold litS
    simp only
    rw [lit_dig]
    rfl
  have e := par3p2 (q2 n) (q1 n) (q0 n) (pl3p2_ok (by unfold ul3p2; exact forall_cons (by rw [c]; exact fs) forall_nil))
  have hx : px3p2 (q2 n) (q1 n) (q0 n) = Clk.fo n := by
    unfold px3p2
    rw [c]
    rfl
  rw [hx] at e
  rw [tx]
  exact e

set_option maxRecDepth 100000 in
theorem ev3_3p3 {n : Int} (n1 : -377705116800 ≤ n) (n2 : n ≤ 253402300799) (ok : itsOkF false 3 n = true) : ∃ H' nx', evFunc (withB laP lpP) 120 13 #[.string (txF 3 n), .string fb3] H0 12 = some (splV (Clk.fo n), H', nx') := by
  have fs : ((fsecF (FloatKind.nearest FloatKind.f64 n)) == true) = true := by rw [Clk.near_fo, fsec_of n1 n2]; rfl
  have ok2 := ok
  unfold itsOkF at ok2
  simp only [Bool.and_eq_true, decide_eq_true_eq] at ok2
  have c : (nxt (nxt (nxt (nxt 0 (q3 n)) (q2 n)) (q1 n)) (q0 n)) = n := fold_dig 4 n (by omega) (by have := ok2.2.1; omega) (by decide)
  have tx : txF 3 n = ⟨#[dkF (q3 n), dkF (q2 n), dkF (q1 n), dkF (q0 n)]⟩ := by
    show itoaF n = _
    rw [itoa_lit ok]
    unfold litS
    simp only
    rw [lit_dig]
    rfl
  have e := par3p3 (q3 n) (q2 n) (q1 n) (q0 n) (pl3p3_ok (by unfold ul3p3; exact forall_cons (by rw [c]; exact fs) forall_nil))
  have hx : px3p3 (q3 n) (q2 n) (q1 n) (q0 n) = Clk.fo n := by
    unfold px3p3
    rw [c]
    rfl
  rw [hx] at e
  rw [tx]
  exact e

set_option maxRecDepth 100000 in
theorem ev3_3p4 {n : Int} (n1 : -377705116800 ≤ n) (n2 : n ≤ 253402300799) (ok : itsOkF false 4 n = true) : ∃ H' nx', evFunc (withB laP lpP) 120 13 #[.string (txF 3 n), .string fb3] H0 12 = some (splV (Clk.fo n), H', nx') := by
  have fs : ((fsecF (FloatKind.nearest FloatKind.f64 n)) == true) = true := by rw [Clk.near_fo, fsec_of n1 n2]; rfl
  have ok2 := ok
  unfold itsOkF at ok2
  simp only [Bool.and_eq_true, decide_eq_true_eq] at ok2
  have c : (nxt (nxt (nxt (nxt (nxt 0 (q4 n)) (q3 n)) (q2 n)) (q1 n)) (q0 n)) = n := fold_dig 5 n (by omega) (by have := ok2.2.1; omega) (by decide)
  have tx : txF 3 n = ⟨#[dkF (q4 n), dkF (q3 n), dkF (q2 n), dkF (q1 n), dkF (q0 n)]⟩ := by
    show itoaF n = _
    rw [itoa_lit ok]
    unfold litS
    simp only
    rw [lit_dig]
    rfl
  have e := par3p4 (q4 n) (q3 n) (q2 n) (q1 n) (q0 n) (pl3p4_ok (by unfold ul3p4; exact forall_cons (by rw [c]; exact fs) forall_nil))
  have hx : px3p4 (q4 n) (q3 n) (q2 n) (q1 n) (q0 n) = Clk.fo n := by
    unfold px3p4
    rw [c]
    rfl
  rw [hx] at e
  rw [tx]
  exact e

set_option maxRecDepth 100000 in
theorem ev3_3p5 {n : Int} (n1 : -377705116800 ≤ n) (n2 : n ≤ 253402300799) (ok : itsOkF false 5 n = true) : ∃ H' nx', evFunc (withB laP lpP) 120 13 #[.string (txF 3 n), .string fb3] H0 12 = some (splV (Clk.fo n), H', nx') := by
  have fs : ((fsecF (FloatKind.nearest FloatKind.f64 n)) == true) = true := by rw [Clk.near_fo, fsec_of n1 n2]; rfl
  have ok2 := ok
  unfold itsOkF at ok2
  simp only [Bool.and_eq_true, decide_eq_true_eq] at ok2
  have c : (nxt (nxt (nxt (nxt (nxt (nxt 0 (q5 n)) (q4 n)) (q3 n)) (q2 n)) (q1 n)) (q0 n)) = n := fold_dig 6 n (by omega) (by have := ok2.2.1; omega) (by decide)
  have tx : txF 3 n = ⟨#[dkF (q5 n), dkF (q4 n), dkF (q3 n), dkF (q2 n), dkF (q1 n), dkF (q0 n)]⟩ := by
    show itoaF n = _
    rw [itoa_lit ok]
    unfold litS
    simp only
    rw [lit_dig]
    rfl
  have e := par3p5 (q5 n) (q4 n) (q3 n) (q2 n) (q1 n) (q0 n) (pl3p5_ok (by unfold ul3p5; exact forall_cons (by rw [c]; exact fs) forall_nil))
  have hx : px3p5 (q5 n) (q4 n) (q3 n) (q2 n) (q1 n) (q0 n) = Clk.fo n := by
    unfold px3p5
    rw [c]
    rfl
  rw [hx] at e
  rw [tx]
  exact e

set_option maxRecDepth 100000 in
theorem ev3_3p6 {n : Int} (n1 : -377705116800 ≤ n) (n2 : n ≤ 253402300799) (ok : itsOkF false 6 n = true) : ∃ H' nx', evFunc (withB laP lpP) 120 13 #[.string (txF 3 n), .string fb3] H0 12 = some (splV (Clk.fo n), H', nx') := by
  have fs : ((fsecF (FloatKind.nearest FloatKind.f64 n)) == true) = true := by rw [Clk.near_fo, fsec_of n1 n2]; rfl
  have ok2 := ok
  unfold itsOkF at ok2
  simp only [Bool.and_eq_true, decide_eq_true_eq] at ok2
  have c : (nxt (nxt (nxt (nxt (nxt (nxt (nxt 0 (q6 n)) (q5 n)) (q4 n)) (q3 n)) (q2 n)) (q1 n)) (q0 n)) = n := fold_dig 7 n (by omega) (by have := ok2.2.1; omega) (by decide)
  have tx : txF 3 n = ⟨#[dkF (q6 n), dkF (q5 n), dkF (q4 n), dkF (q3 n), dkF (q2 n), dkF (q1 n), dkF (q0 n)]⟩ := by
    show itoaF n = _
    rw [itoa_lit ok]
    unfold litS
    simp only
    rw [lit_dig]
    rfl
  have e := par3p6 (q6 n) (q5 n) (q4 n) (q3 n) (q2 n) (q1 n) (q0 n) (pl3p6_ok (by unfold ul3p6; exact forall_cons (by rw [c]; exact fs) forall_nil))
  have hx : px3p6 (q6 n) (q5 n) (q4 n) (q3 n) (q2 n) (q1 n) (q0 n) = Clk.fo n := by
    unfold px3p6
    rw [c]
    rfl
  rw [hx] at e
  rw [tx]
  exact e

set_option maxRecDepth 100000 in
theorem ev3_3p7 {n : Int} (n1 : -377705116800 ≤ n) (n2 : n ≤ 253402300799) (ok : itsOkF false 7 n = true) : ∃ H' nx', evFunc (withB laP lpP) 120 13 #[.string (txF 3 n), .string fb3] H0 12 = some (splV (Clk.fo n), H', nx') := by
  have fs : ((fsecF (FloatKind.nearest FloatKind.f64 n)) == true) = true := by rw [Clk.near_fo, fsec_of n1 n2]; rfl
  have ok2 := ok
  unfold itsOkF at ok2
  simp only [Bool.and_eq_true, decide_eq_true_eq] at ok2
  have c : (nxt (nxt (nxt (nxt (nxt (nxt (nxt (nxt 0 (q7 n)) (q6 n)) (q5 n)) (q4 n)) (q3 n)) (q2 n)) (q1 n)) (q0 n)) = n := fold_dig 8 n (by omega) (by have := ok2.2.1; omega) (by decide)
  have tx : txF 3 n = ⟨#[dkF (q7 n), dkF (q6 n), dkF (q5 n), dkF (q4 n), dkF (q3 n), dkF (q2 n), dkF (q1 n), dkF (q0 n)]⟩ := by
    show itoaF n = _
    rw [itoa_lit ok]
    unfold litS
    simp only
    rw [lit_dig]
    rfl
  have e := par3p7 (q7 n) (q6 n) (q5 n) (q4 n) (q3 n) (q2 n) (q1 n) (q0 n) (pl3p7_ok (by unfold ul3p7; exact forall_cons (by rw [c]; exact fs) forall_nil))
  have hx : px3p7 (q7 n) (q6 n) (q5 n) (q4 n) (q3 n) (q2 n) (q1 n) (q0 n) = Clk.fo n := by
    unfold px3p7
    rw [c]
    rfl
  rw [hx] at e
  rw [tx]
  exact e

set_option maxRecDepth 100000 in
theorem ev3_3p8 {n : Int} (n1 : -377705116800 ≤ n) (n2 : n ≤ 253402300799) (ok : itsOkF false 8 n = true) : ∃ H' nx', evFunc (withB laP lpP) 120 13 #[.string (txF 3 n), .string fb3] H0 12 = some (splV (Clk.fo n), H', nx') := by
  have fs : ((fsecF (FloatKind.nearest FloatKind.f64 n)) == true) = true := by rw [Clk.near_fo, fsec_of n1 n2]; rfl
  have ok2 := ok
  unfold itsOkF at ok2
  simp only [Bool.and_eq_true, decide_eq_true_eq] at ok2
  have c : (nxt (nxt (nxt (nxt (nxt (nxt (nxt (nxt (nxt 0 (q8 n)) (q7 n)) (q6 n)) (q5 n)) (q4 n)) (q3 n)) (q2 n)) (q1 n)) (q0 n)) = n := fold_dig 9 n (by omega) (by have := ok2.2.1; omega) (by decide)
  have tx : txF 3 n = ⟨#[dkF (q8 n), dkF (q7 n), dkF (q6 n), dkF (q5 n), dkF (q4 n), dkF (q3 n), dkF (q2 n), dkF (q1 n), dkF (q0 n)]⟩ := by
    show itoaF n = _
    rw [itoa_lit ok]
    unfold litS
    simp only
    rw [lit_dig]
    rfl
  have e := par3p8 (q8 n) (q7 n) (q6 n) (q5 n) (q4 n) (q3 n) (q2 n) (q1 n) (q0 n) (pl3p8_ok (by unfold ul3p8; exact forall_cons (by rw [c]; exact fs) forall_nil))
  have hx : px3p8 (q8 n) (q7 n) (q6 n) (q5 n) (q4 n) (q3 n) (q2 n) (q1 n) (q0 n) = Clk.fo n := by
    unfold px3p8
    rw [c]
    rfl
  rw [hx] at e
  rw [tx]
  exact e

set_option maxRecDepth 100000 in
theorem ev3_3p9 {n : Int} (n1 : -377705116800 ≤ n) (n2 : n ≤ 253402300799) (ok : itsOkF false 9 n = true) : ∃ H' nx', evFunc (withB laP lpP) 120 13 #[.string (txF 3 n), .string fb3] H0 12 = some (splV (Clk.fo n), H', nx') := by
  have fs : ((fsecF (FloatKind.nearest FloatKind.f64 n)) == true) = true := by rw [Clk.near_fo, fsec_of n1 n2]; rfl
  have ok2 := ok
  unfold itsOkF at ok2
  simp only [Bool.and_eq_true, decide_eq_true_eq] at ok2
  have c : (nxt (nxt (nxt (nxt (nxt (nxt (nxt (nxt (nxt (nxt 0 (q9 n)) (q8 n)) (q7 n)) (q6 n)) (q5 n)) (q4 n)) (q3 n)) (q2 n)) (q1 n)) (q0 n)) = n := fold_dig 10 n (by omega) (by have := ok2.2.1; omega) (by decide)
  have tx : txF 3 n = ⟨#[dkF (q9 n), dkF (q8 n), dkF (q7 n), dkF (q6 n), dkF (q5 n), dkF (q4 n), dkF (q3 n), dkF (q2 n), dkF (q1 n), dkF (q0 n)]⟩ := by
    show itoaF n = _
    rw [itoa_lit ok]
    unfold litS
    simp only
    rw [lit_dig]
    rfl
  have e := par3p9 (q9 n) (q8 n) (q7 n) (q6 n) (q5 n) (q4 n) (q3 n) (q2 n) (q1 n) (q0 n) (pl3p9_ok (by unfold ul3p9; exact forall_cons (by rw [c]; exact fs) forall_nil))
  have hx : px3p9 (q9 n) (q8 n) (q7 n) (q6 n) (q5 n) (q4 n) (q3 n) (q2 n) (q1 n) (q0 n) = Clk.fo n := by
    unfold px3p9
    rw [c]
    rfl
  rw [hx] at e
  rw [tx]
  exact e

set_option maxRecDepth 100000 in
theorem ev3_3p10 {n : Int} (n1 : -377705116800 ≤ n) (n2 : n ≤ 253402300799) (ok : itsOkF false 10 n = true) : ∃ H' nx', evFunc (withB laP lpP) 120 13 #[.string (txF 3 n), .string fb3] H0 12 = some (splV (Clk.fo n), H', nx') := by
  have fs : ((fsecF (FloatKind.nearest FloatKind.f64 n)) == true) = true := by rw [Clk.near_fo, fsec_of n1 n2]; rfl
  have ok2 := ok
  unfold itsOkF at ok2
  simp only [Bool.and_eq_true, decide_eq_true_eq] at ok2
  have c : (nxt (nxt (nxt (nxt (nxt (nxt (nxt (nxt (nxt (nxt (nxt 0 (q10 n)) (q9 n)) (q8 n)) (q7 n)) (q6 n)) (q5 n)) (q4 n)) (q3 n)) (q2 n)) (q1 n)) (q0 n)) = n := fold_dig 11 n (by omega) (by have := ok2.2.1; omega) (by decide)
  have tx : txF 3 n = ⟨#[dkF (q10 n), dkF (q9 n), dkF (q8 n), dkF (q7 n), dkF (q6 n), dkF (q5 n), dkF (q4 n), dkF (q3 n), dkF (q2 n), dkF (q1 n), dkF (q0 n)]⟩ := by
    show itoaF n = _
    rw [itoa_lit ok]
    unfold litS
    simp only
    rw [lit_dig]
    rfl
  have e := par3p10 (q10 n) (q9 n) (q8 n) (q7 n) (q6 n) (q5 n) (q4 n) (q3 n) (q2 n) (q1 n) (q0 n) (pl3p10_ok (by unfold ul3p10; exact forall_cons (by rw [c]; exact fs) forall_nil))
  have hx : px3p10 (q10 n) (q9 n) (q8 n) (q7 n) (q6 n) (q5 n) (q4 n) (q3 n) (q2 n) (q1 n) (q0 n) = Clk.fo n := by
    unfold px3p10
    rw [c]
    rfl
  rw [hx] at e
  rw [tx]
  exact e

set_option maxRecDepth 100000 in
theorem ev3_3p11 {n : Int} (n1 : -377705116800 ≤ n) (n2 : n ≤ 253402300799) (ok : itsOkF false 11 n = true) : ∃ H' nx', evFunc (withB laP lpP) 120 13 #[.string (txF 3 n), .string fb3] H0 12 = some (splV (Clk.fo n), H', nx') := by
  have fs : ((fsecF (FloatKind.nearest FloatKind.f64 n)) == true) = true := by rw [Clk.near_fo, fsec_of n1 n2]; rfl
  have ok2 := ok
  unfold itsOkF at ok2
  simp only [Bool.and_eq_true, decide_eq_true_eq] at ok2
  have c : (nxt (nxt (nxt (nxt (nxt (nxt (nxt (nxt (nxt (nxt (nxt (nxt 0 (q11 n)) (q10 n)) (q9 n)) (q8 n)) (q7 n)) (q6 n)) (q5 n)) (q4 n)) (q3 n)) (q2 n)) (q1 n)) (q0 n)) = n := fold_dig 12 n (by omega) (by have := ok2.2.1; omega) (by decide)
  have tx : txF 3 n = ⟨#[dkF (q11 n), dkF (q10 n), dkF (q9 n), dkF (q8 n), dkF (q7 n), dkF (q6 n), dkF (q5 n), dkF (q4 n), dkF (q3 n), dkF (q2 n), dkF (q1 n), dkF (q0 n)]⟩ := by
    show itoaF n = _
    rw [itoa_lit ok]
    unfold litS
    simp only
    rw [lit_dig]
    rfl
  have e := par3p11 (q11 n) (q10 n) (q9 n) (q8 n) (q7 n) (q6 n) (q5 n) (q4 n) (q3 n) (q2 n) (q1 n) (q0 n) (pl3p11_ok (by unfold ul3p11; exact forall_cons (by rw [c]; exact fs) forall_nil))
  have hx : px3p11 (q11 n) (q10 n) (q9 n) (q8 n) (q7 n) (q6 n) (q5 n) (q4 n) (q3 n) (q2 n) (q1 n) (q0 n) = Clk.fo n := by
    unfold px3p11
    rw [c]
    rfl
  rw [hx] at e
  rw [tx]
  exact e

set_option maxRecDepth 100000 in
theorem ev3_3n0 {n : Int} (n1 : -377705116800 ≤ n) (n2 : n ≤ 253402300799) (ok : itsOkF true 0 n = true) : ∃ H' nx', evFunc (withB laP lpP) 120 13 #[.string (txF 3 n), .string fb3] H0 12 = some (splV (Clk.fo n), H', nx') := by
  have fs : ((fsecF (FloatKind.nearest FloatKind.f64 n)) == true) = true := by rw [Clk.near_fo, fsec_of n1 n2]; rfl
  have ok2 := ok
  unfold itsOkF at ok2
  simp only [Bool.and_eq_true, decide_eq_true_eq] at ok2
  obtain ⟨m, hm⟩ : ∃ m, m = 0 - n := ⟨_, rfl⟩
  have wN : IntKind.wrap IntKind.i64 (0 - m) = n := by rw [hm, show 0 - (0 - n) = n by omega]; exact wrap_id _ (by omega) (by omega)
  have c : (nxt 0 (q0 m)) = m := fold_dig 1 m (by omega) (by have := ok2.2.1; omega) (by decide)
  have tx : txF 3 n = ⟨#[45, dkF (q0 m)]⟩ := by
    show itoaF n = _
    rw [itoa_lit ok]
    unfold litS
    simp only
    rw [← hm]
    rw [lit_dig]
    rfl
  have e := par3n0 (q0 m) (pl3n0_ok (by unfold ul3n0; exact forall_cons (by rw [c, wN]; exact fs) forall_nil))
  have hx : px3n0 (q0 m) = Clk.fo n := by
    unfold px3n0
    rw [c, wN]
    rfl
  rw [hx] at e
  rw [tx]
  exact e

set_option maxRecDepth 100000 in
theorem ev3_3n1 {n : Int} (n1 : -377705116800 ≤ n) (n2 : n ≤ 253402300799) (ok : itsOkF true 1 n = true) : ∃ H' nx', evFunc (withB laP lpP) 120 13 #[.string (txF 3 n), .string fb3] H0 12 = some (splV (Clk.fo n), H', nx') := by
  have fs : ((fsecF (FloatKind.nearest FloatKind.f64 n)) == true) = true := by rw [Clk.near_fo, fsec_of n1 n2]; rfl
  have ok2 := ok
  unfold itsOkF at ok2
  simp only [Bool.and_eq_true, decide_eq_true_eq] at ok2
  obtain ⟨m, hm⟩ : ∃ m, m = 0 - n := ⟨_, rfl⟩
  have wN : IntKind.wrap IntKind.i64 (0 - m) = n := by rw [hm, show 0 - (0 - n) = n by omega]; exact wrap_id _ (by omega) (by omega)
  have c : (nxt (nxt 0 (q1 m)) (q0 m)) = m := fold_dig 2 m (by omega) (by have := ok2.2.1; omega) (by decide)
  have tx : txF 3 n = ⟨#[45, dkF (q1 m), dkF (q0 m)]⟩ := by
    show itoaF n = _
    rw [itoa_lit ok]
    unfold litS
    simp only
    rw [← hm]
    rw [lit_dig]
    rfl
  have e := par3n1 (q1 m) (q0 m) (pl3n1_ok (by unfold ul3n1; exact forall_cons (by rw [c, wN]; exact fs) forall_nil))
  have hx : px3n1 (q1 m) (q0 m) = Clk.fo n := by
    unfold px3n1
    rw [c, wN]
    rfl
  rw [hx] at e
  rw [tx]
  exact e

set_option maxRecDepth 100000 in
theorem ev3_3n2 {n : Int} (n1 : -377705116800 ≤ n) (n2 : n ≤ 253402300799) (ok : itsOkF true 2 n = true) : ∃ H' nx', evFunc (withB laP lpP) 120 13 #[.string (txF 3 n), .string fb3] H0 12 = some (splV (Clk.fo n), H', nx') := by
  have fs : ((fsecF (FloatKind.nearest FloatKind.f64 n)) == true) = true := by rw [Clk.near_fo, fsec_of n1 n2]; rfl
  have ok2 := ok
  unfold itsOkF at ok2
  simp only [Bool.and_eq_true, decide_eq_true_eq] at ok2
  obtain ⟨m, hm⟩ : ∃ m, m = 0 - n := ⟨_, rfl⟩
  have wN : IntKind.wrap IntKind.i64 (0 - m) = n := by rw [hm, show 0 - (0 - n) = n by omega]; exact wrap_id _ (by omega) (by omega)
  have c : (nxt (nxt (nxt 0 (q2 m)) (q1 m)) (q0 m)) = m := fold_dig 3 m (by omega) (by have := ok2.2.1; omega) (by decide)
  have tx : txF 3 n = ⟨#[45, dkF (q2 m), dkF (q1 m), dkF (q0 m)]⟩ := by
    show itoaF n = _
    rw [itoa_lit ok]
    unfold litS
    simp only
    rw [← hm]
    rw [lit_dig]
    rfl
  have e := par3n2 (q2 m) (q1 m) (q0 m) (pl3n2_ok (by unfold ul3n2; exact forall_cons (by rw [c, wN]; exact fs) forall_nil))
  have hx : px3n2 (q2 m) (q1 m) (q0 m) = Clk.fo n := by
    unfold px3n2
    rw [c, wN]
    rfl
  rw [hx] at e
  rw [tx]
  exact e

set_option maxRecDepth 100000 in
theorem ev3_3n3 {n : Int} (n1 : -377705116800 ≤ n) (n2 : n ≤ 253402300799) (ok : itsOkF true 3 n = true) : ∃ H' nx', evFunc (withB laP lpP) 120 13 #[.string (txF 3 n), .string fb3] H0 12 = some (splV (Clk.fo n), H', nx') := by
  have fs : ((fsecF (FloatKind.nearest FloatKind.f64 n)) == true) = true := by rw [Clk.near_fo, fsec_of n1 n2]; rfl
  have ok2 := ok
  unfold itsOkF at ok2
  simp only [Bool.and_eq_true, decide_eq_true_eq] at ok2
  obtain ⟨m, hm⟩ : ∃ m, m = 0 - n := ⟨_, rfl⟩
  have wN : IntKind.wrap IntKind.i64 (0 - m) = n := by rw [hm, show 0 - (0 - n) = n by omega]; exact wrap_id _ (by omega) (by omega)
  have c : (nxt (nxt (nxt (nxt 0 (q3 m)) (q2 m)) (q1 m)) (q0 m)) = m := fold_dig 4 m (by omega) (by have := ok2.2.1; omega) (by decide)
  have tx : txF 3 n = ⟨#[45, dkF (q3 m), dkF (q2 m), dkF (q1 m), dkF (q0 m)]⟩ := by
    show itoaF n = _
    rw [itoa_lit ok]
    unfold litS
    simp only
    rw [← hm]
    rw [lit_dig]
    rfl
  have e := par3n3 (q3 m) (q2 m) (q1 m) (q0 m) (pl3n3_ok (by unfold ul3n3; exact forall_cons (by rw [c, wN]; exact fs) forall_nil))
  have hx : px3n3 (q3 m) (q2 m) (q1 m) (q0 m) = Clk.fo n := by
    unfold px3n3
    rw [c, wN]
    rfl
  rw [hx] at e
  rw [tx]
  exact e

set_option maxRecDepth 100000 in
theorem ev3_3n4 {n : Int} (n1 : -377705116800 ≤ n) (n2 : n ≤ 253402300799) (ok : itsOkF true 4 n = true) : ∃ H' nx', evFunc (withB laP lpP) 120 13 #[.string (txF 3 n), .string fb3] H0 12 = some (splV (Clk.fo n), H', nx') := by
  have fs : ((fsecF (FloatKind.nearest FloatKind.f64 n)) == true) = true := by rw [Clk.near_fo, fsec_of n1 n2]; rfl
  have ok2 := ok
  unfold itsOkF at ok2
  simp only [Bool.and_eq_true, decide_eq_true_eq] at ok2
  obtain ⟨m, hm⟩ : ∃ m, m = 0 - n := ⟨_, rfl⟩
  have wN : IntKind.wrap IntKind.i64 (0 - m) = n := by rw [hm, show 0 - (0 - n) = n by omega]; exact wrap_id _ (by omega) (by omega)
  have c : (nxt (nxt (nxt (nxt (nxt 0 (q4 m)) (q3 m)) (q2 m)) (q1 m)) (q0 m)) = m := fold_dig 5 m (by omega) (by have := ok2.2.1; omega) (by decide)
  have tx : txF 3 n = ⟨#[45, dkF (q4 m), dkF (q3 m), dkF (q2 m), dkF (q1 m), dkF (q0 m)]⟩ := by
    show itoaF n = _
    rw [itoa_lit ok]
    unfold litS
    simp only
    rw [← hm]
    rw [lit_dig]
    rfl
  have e := par3n4 (q4 m) (q3 m) (q2 m) (q1 m) (q0 m) (pl3n4_ok (by unfold ul3n4; exact forall_cons (by rw [c, wN]; exact fs) forall_nil))
  have hx : px3n4 (q4 m) (q3 m) (q2 m) (q1 m) (q0 m) = Clk.fo n := by
    unfold px3n4
    rw [c, wN]
    rfl
  rw [hx] at e
  rw [tx]
  exact e

set_option maxRecDepth 100000 in
theorem ev3_3n5 {n : Int} (n1 : -377705116800 ≤ n) (n2 : n ≤ 253402300799) (ok : itsOkF true 5 n = true) : ∃ H' nx', evFunc (withB laP lpP) 120 13 #[.string (txF 3 n), .string fb3] H0 12 = some (splV (Clk.fo n), H', nx') := by
  have fs : ((fsecF (FloatKind.nearest FloatKind.f64 n)) == true) = true := by rw [Clk.near_fo, fsec_of n1 n2]; rfl
  have ok2 := ok
  unfold itsOkF at ok2
  simp only [Bool.and_eq_true, decide_eq_true_eq] at ok2
  obtain ⟨m, hm⟩ : ∃ m, m = 0 - n := ⟨_, rfl⟩
  have wN : IntKind.wrap IntKind.i64 (0 - m) = n := by rw [hm, show 0 - (0 - n) = n by omega]; exact wrap_id _ (by omega) (by omega)
  have c : (nxt (nxt (nxt (nxt (nxt (nxt 0 (q5 m)) (q4 m)) (q3 m)) (q2 m)) (q1 m)) (q0 m)) = m := fold_dig 6 m (by omega) (by have := ok2.2.1; omega) (by decide)
  have tx : txF 3 n = ⟨#[45, dkF (q5 m), dkF (q4 m), dkF (q3 m), dkF (q2 m), dkF (q1 m), dkF (q0 m)]⟩ := by
    show itoaF n = _
    rw [itoa_lit ok]
    unfold litS
    simp only
    rw [← hm]
    rw [lit_dig]
    rfl
  have e := par3n5 (q5 m) (q4 m) (q3 m) (q2 m) (q1 m) (q0 m) (pl3n5_ok (by unfold ul3n5; exact forall_cons (by rw [c, wN]; exact fs) forall_nil))
  have hx : px3n5 (q5 m) (q4 m) (q3 m) (q2 m) (q1 m) (q0 m) = Clk.fo n := by
    unfold px3n5
    rw [c, wN]
    rfl
  rw [hx] at e
  rw [tx]
  exact e

set_option maxRecDepth 100000 in
theorem ev3_3n6 {n : Int} (n1 : -377705116800 ≤ n) (n2 : n ≤ 253402300799) (ok : itsOkF true 6 n = true) : ∃ H' nx', evFunc (withB laP lpP) 120 13 #[.string (txF 3 n), .string fb3] H0 12 = some (splV (Clk.fo n), H', nx') := by
  have fs : ((fsecF (FloatKind.nearest FloatKind.f64 n)) == true) = true := by rw [Clk.near_fo, fsec_of n1 n2]; rfl
  have ok2 := ok
  unfold itsOkF at ok2
  simp only [Bool.and_eq_true, decide_eq_true_eq] at ok2
  obtain ⟨m, hm⟩ : ∃ m, m = 0 - n := ⟨_, rfl⟩
  have wN : IntKind.wrap IntKind.i64 (0 - m) = n := by rw [hm, show 0 - (0 - n) = n by omega]; exact wrap_id _ (by omega) (by omega)
  have c : (nxt (nxt (nxt (nxt (nxt (nxt (nxt 0 (q6 m)) (q5 m)) (q4 m)) (q3 m)) (q2 m)) (q1 m)) (q0 m)) = m := fold_dig 7 m (by omega) (by have := ok2.2.1; omega) (by decide)
  have tx : txF 3 n = ⟨#[45, dkF (q6 m), dkF (q5 m), dkF (q4 m), dkF (q3 m), dkF (q2 m), dkF (q1 m), dkF (q0 m)]⟩ := by
    show itoaF n = _
    rw [itoa_lit ok]
    unfold litS
    simp only
    rw [← hm]
    rw [lit_dig]
    rfl
  have e := par3n6 (q6 m) (q5 m) (q4 m) (q3 m) (q2 m) (q1 m) (q0 m) (pl3n6_ok (by unfold ul3n6; exact forall_cons (by rw [c, wN]; exact fs) forall_nil))
  have hx : px3n6 (q6 m) (q5 m) (q4 m) (q3 m) (q2 m) (q1 m) (q0 m) = Clk.fo n := by
    unfold px3n6
    rw [c, wN]
    rfl
  rw [hx] at e
  rw [tx]
  exact e

set_option maxRecDepth 100000 in
theorem ev3_3n7 {n : Int} (n1 : -377705116800 ≤ n) (n2 : n ≤ 253402300799) (ok : itsOkF true 7 n = true) : ∃ H' nx', evFunc (withB laP lpP) 120 13 #[.string (txF 3 n), .string fb3] H0 12 = some (splV (Clk.fo n), H', nx') := by
  have fs : ((fsecF (FloatKind.nearest FloatKind.f64 n)) == true) = true := by rw [Clk.near_fo, fsec_of n1 n2]; rfl
  have ok2 := ok
  unfold itsOkF at ok2
  simp only [Bool.and_eq_true, decide_eq_true_eq] at ok2
  obtain ⟨m, hm⟩ : ∃ m, m = 0 - n := ⟨_, rfl⟩
  have wN : IntKind.wrap IntKind.i64 (0 - m) = n := by rw [hm, show 0 - (0 - n) = n by omega]; exact wrap_id _ (by omega) (by omega)
  have c : (nxt (nxt (nxt (nxt (nxt (nxt (nxt (nxt 0 (q7 m)) (q6 m)) (q5 m)) (q4 m)) (q3 m)) (q2 m)) (q1 m)) (q0 m)) = m := fold_dig 8 m (by omega) (by have := ok2.2.1; omega) (by decide)
  have tx : txF 3 n = ⟨#[45, dkF (q7 m), dkF (q6 m), dkF (q5 m), dkF (q4 m), dkF (q3 m), dkF (q2 m), dkF (q1 m), dkF (q0 m)]⟩ := by
    show itoaF n = _
    rw [itoa_lit ok]
    unfold litS
    simp only
    rw [← hm]
    rw [lit_dig]
    rfl
  have e := par3n7 (q7 m) (q6 m) (q5 m) (q4 m) (q3 m) (q2 m) (q1 m) (q0 m) (pl3n7_ok (by unfold ul3n7; exact forall_cons (by rw [c, wN]; exact fs) forall_nil))
  have hx : px3n7 (q7 m) (q6 m) (q5 m) (q4 m) (q3 m) (q2 m) (q1 m) (q0 m) = Clk.fo n := by
    unfold px3n7
    rw [c, wN]
    rfl
  rw [hx] at e
  rw [tx]
  exact e

set_option maxRecDepth 100000 in
theorem ev3_3n8 {n : Int} (n1 : -377705116800 ≤ n) (n2 : n ≤ 253402300799) (ok : itsOkF true 8 n = true) : ∃ H' nx', evFunc (withB laP lpP) 120 13 #[.string (txF 3 n), .string fb3] H0 12 = some (splV (Clk.fo n), H', nx') := by
  have fs : ((fsecF (FloatKind.nearest FloatKind.f64 n)) == true) = true := by rw [Clk.near_fo, fsec_of n1 n2]; rfl
  have ok2 := ok
  unfold itsOkF at ok2
  simp only [Bool.and_eq_true, decide_eq_true_eq] at ok2
  obtain ⟨m, hm⟩ : ∃ m, m = 0 - n := ⟨_, rfl⟩
  have wN : IntKind.wrap IntKind.i64 (0 - m) = n := by rw [hm, show 0 - (0 - n) = n by omega]; exact wrap_id _ (by omega) (by omega)
  have c : (nxt (nxt (nxt (nxt (nxt (nxt (nxt (nxt (nxt 0 (q8 m)) (q7 m)) (q6 m)) (q5 m)) (q4 m)) (q3 m)) (q2 m)) (q1 m)) (q0 m)) = m := fold_dig 9 m (by omega) (by have := ok2.2.1; omega) (by decide)
  have tx : txF 3 n = ⟨#[45, dkF (q8 m), dkF (q7 m), dkF (q6 m), dkF (q5 m), dkF (q4 m), dkF (q3 m), dkF (q2 m), dkF (q1 m), dkF (q0 m)]⟩ := by
    show itoaF n = _
    rw [itoa_lit ok]
    unfold litS
    simp only
    rw [← hm]
    rw [lit_dig]
    rfl
  have e := par3n8 (q8 m) (q7 m) (q6 m) (q5 m) (q4 m) (q3 m) (q2 m) (q1 m) (q0 m) (pl3n8_ok (by unfold ul3n8; exact forall_cons (by rw [c, wN]; exact fs) forall_nil))
  have hx : px3n8 (q8 m) (q7 m) (q6 m) (q5 m) (q4 m) (q3 m) (q2 m) (q1 m) (q0 m) = Clk.fo n := by
    unfold px3n8
    rw [c, wN]
    rfl
  rw [hx] at e
  rw [tx]
  exact e

set_option maxRecDepth 100000 in
theorem ev3_3n9 {n : Int} (n1 : -377705116800 ≤ n) (n2 : n ≤ 253402300799) (ok : itsOkF true 9 n = true) : ∃ H' nx', evFunc (withB laP lpP) 120 13 #[.string (txF 3 n), .string fb3] H0 12 = some (splV (Clk.fo n), H', nx') := by
  have fs : ((fsecF (FloatKind.nearest FloatKind.f64 n)) == true) = true := by rw [Clk.near_fo, fsec_of n1 n2]; rfl
  have ok2 := ok
  unfold itsOkF at ok2
  simp only [Bool.and_eq_true, decide_eq_true_eq] at ok2
  obtain ⟨m, hm⟩ : ∃ m, m = 0 - n := ⟨_, rfl⟩
  have wN : IntKind.wrap IntKind.i64 (0 - m) = n := by rw [hm, show 0 - (0 - n) = n by omega]; exact wrap_id _ (by omega) (by omega)
  have c : (nxt (nxt (nxt (nxt (nxt (nxt (nxt (nxt (nxt (nxt 0 (q9 m)) (q8 m)) (q7 m)) (q6 m)) (q5 m)) (q4 m)) (q3 m)) (q2 m)) (q1 m)) (q0 m)) = m := fold_dig 10 m (by omega) (by have := ok2.2.1; omega) (by decide)
  have tx : txF 3 n = ⟨#[45, dkF (q9 m), dkF (q8 m), dkF (q7 m), dkF (q6 m), dkF (q5 m), dkF (q4 m), dkF (q3 m), dkF (q2 m), dkF (q1 m), dkF (q0 m)]⟩ := by
    show itoaF n = _
    rw [itoa_lit ok]
    unfold litS
    simp only
    rw [← hm]
    rw [lit_dig]
    rfl
  have e := par3n9 (q9 m) (q8 m) (q7 m) (q6 m) (q5 m) (q4 m) (q3 m) (q2 m) (q1 m) (q0 m) (pl3n9_ok (by unfold ul3n9; exact forall_cons (by rw [c, wN]; exact fs) forall_nil))
  have hx : px3n9 (q9 m) (q8 m) (q7 m) (q6 m) (q5 m) (q4 m) (q3 m) (q2 m) (q1 m) (q0 m) = Clk.fo n := by
    unfold px3n9
    rw [c, wN]
    rfl
  rw [hx] at e
  rw [tx]
  exact e

set_option maxRecDepth 100000 in
theorem ev3_3n10 {n : Int} (n1 : -377705116800 ≤ n) (n2 : n ≤ 253402300799) (ok : itsOkF true 10 n = true) : ∃ H' nx', evFunc (withB laP lpP) 120 13 #[.string (txF 3 n), .string fb3] H0 12 = some (splV (Clk.fo n), H', nx') := by
  have fs : ((fsecF (FloatKind.nearest FloatKind.f64 n)) == true) = true := by rw [Clk.near_fo, fsec_of n1 n2]; rfl
  have ok2 := ok
  unfold itsOkF at ok2
  simp only [Bool.and_eq_true, decide_eq_true_eq] at ok2
  obtain ⟨m, hm⟩ : ∃ m, m = 0 - n := ⟨_, rfl⟩
  have wN : IntKind.wrap IntKind.i64 (0 - m) = n := by rw [hm, show 0 - (0 - n) = n by omega]; exact wrap_id _ (by omega) (by omega)
  have c : (nxt (nxt (nxt (nxt (nxt (nxt (nxt (nxt (nxt (nxt (nxt 0 (q10 m)) (q9 m)) (q8 m)) (q7 m)) (q6 m)) (q5 m)) (q4 m)) (q3 m)) (q2 m)) (q1 m)) (q0 m)) = m := fold_dig 11 m (by omega) (by have := ok2.2.1; omega) (by decide)
  have tx : txF 3 n = ⟨#[45, dkF (q10 m), dkF (q9 m), dkF (q8 m), dkF (q7 m), dkF (q6 m), dkF (q5 m), dkF (q4 m), dkF (q3 m), dkF (q2 m), dkF (q1 m), dkF (q0 m)]⟩ := by
    show itoaF n = _
    rw [itoa_lit ok]
    unfold litS
    simp only
    rw [← hm]
    rw [lit_dig]
    rfl
  have e := par3n10 (q10 m) (q9 m) (q8 m) (q7 m) (q6 m) (q5 m) (q4 m) (q3 m) (q2 m) (q1 m) (q0 m) (pl3n10_ok (by unfold ul3n10; exact forall_cons (by rw [c, wN]; exact fs) forall_nil))
  have hx : px3n10 (q10 m) (q9 m) (q8 m) (q7 m) (q6 m) (q5 m) (q4 m) (q3 m) (q2 m) (q1 m) (q0 m) = Clk.fo n := by
    unfold px3n10
    rw [c, wN]
    rfl
  rw [hx] at e
  rw [tx]
  exact e

theorem parse_ev3 {n : Int} (hn : yearN n) : ∃ H' nx', evFunc (withB laP lpP) 120 13 #[.string (txF 3 n), .string fb3] H0 12 = some (splV (Clk.fo n), H', nx') := by
  obtain ⟨n1, n2, n3⟩ := hn
  have lo := Clk.year_lo (n / 86400) n3
  have ok : ∀ neg l, (match neg with | true => n < 0 ∧ (-n).toNat < 10 ^ (l + 1) ∧ (l = 0 ∨ 10 ^ l ≤ (-n).toNat) | false => 0 ≤ n ∧ n.toNat < 10 ^ (l + 1) ∧ (l = 0 ∨ 10 ^ l ≤ n.toNat)) → itsOkF neg l n = true := by
    intro neg l q
    cases neg <;> (unfold itsOkF; simp only [Bool.and_eq_true, Bool.or_eq_true, decide_eq_true_eq]; exact q)
  by_cases hneg : n < 0
  · by_cases c0 : (-n).toNat < 10
    · exact ev3_3n0 n1 n2 (ok true 0 ⟨hneg, by omega, (.inl rfl)⟩)
    · by_cases c1 : (-n).toNat < 100
      · exact ev3_3n1 n1 n2 (ok true 1 ⟨hneg, by omega, (.inr (by omega))⟩)
      · by_cases c2 : (-n).toNat < 1000
        · exact ev3_3n2 n1 n2 (ok true 2 ⟨hneg, by omega, (.inr (by omega))⟩)
        · by_cases c3 : (-n).toNat < 10000
          · exact ev3_3n3 n1 n2 (ok true 3 ⟨hneg, by omega, (.inr (by omega))⟩)
          · by_cases c4 : (-n).toNat < 100000
            · exact ev3_3n4 n1 n2 (ok true 4 ⟨hneg, by omega, (.inr (by omega))⟩)
            · by_cases c5 : (-n).toNat < 1000000
              · exact ev3_3n5 n1 n2 (ok true 5 ⟨hneg, by omega, (.inr (by omega))⟩)
              · by_cases c6 : (-n).toNat < 10000000
                · exact ev3_3n6 n1 n2 (ok true 6 ⟨hneg, by omega, (.inr (by omega))⟩)
                · by_cases c7 : (-n).toNat < 100000000
                  · exact ev3_3n7 n1 n2 (ok true 7 ⟨hneg, by omega, (.inr (by omega))⟩)
                  · by_cases c8 : (-n).toNat < 1000000000
                    · exact ev3_3n8 n1 n2 (ok true 8 ⟨hneg, by omega, (.inr (by omega))⟩)
                    · by_cases c9 : (-n).toNat < 10000000000
                      · exact ev3_3n9 n1 n2 (ok true 9 ⟨hneg, by omega, (.inr (by omega))⟩)
                      · exact ev3_3n10 n1 n2 (ok true 10 ⟨hneg, by omega, (.inr (by omega))⟩)
  · by_cases c0 : n.toNat < 10
    · exact ev3_3p0 n1 n2 (ok false 0 ⟨(by omega), by omega, (.inl rfl)⟩)
    · by_cases c1 : n.toNat < 100
      · exact ev3_3p1 n1 n2 (ok false 1 ⟨(by omega), by omega, (.inr (by omega))⟩)
      · by_cases c2 : n.toNat < 1000
        · exact ev3_3p2 n1 n2 (ok false 2 ⟨(by omega), by omega, (.inr (by omega))⟩)
        · by_cases c3 : n.toNat < 10000
          · exact ev3_3p3 n1 n2 (ok false 3 ⟨(by omega), by omega, (.inr (by omega))⟩)
          · by_cases c4 : n.toNat < 100000
            · exact ev3_3p4 n1 n2 (ok false 4 ⟨(by omega), by omega, (.inr (by omega))⟩)
            · by_cases c5 : n.toNat < 1000000
              · exact ev3_3p5 n1 n2 (ok false 5 ⟨(by omega), by omega, (.inr (by omega))⟩)
              · by_cases c6 : n.toNat < 10000000
                · exact ev3_3p6 n1 n2 (ok false 6 ⟨(by omega), by omega, (.inr (by omega))⟩)
                · by_cases c7 : n.toNat < 100000000
                  · exact ev3_3p7 n1 n2 (ok false 7 ⟨(by omega), by omega, (.inr (by omega))⟩)
                  · by_cases c8 : n.toNat < 1000000000
                    · exact ev3_3p8 n1 n2 (ok false 8 ⟨(by omega), by omega, (.inr (by omega))⟩)
                    · by_cases c9 : n.toNat < 10000000000
                      · exact ev3_3p9 n1 n2 (ok false 9 ⟨(by omega), by omega, (.inr (by omega))⟩)
                      · by_cases c10 : n.toNat < 100000000000
                        · exact ev3_3p10 n1 n2 (ok false 10 ⟨(by omega), by omega, (.inr (by omega))⟩)
                        · exact ev3_3p11 n1 n2 (ok false 11 ⟨(by omega), by omega, (.inr (by omega))⟩)

end Go.Proofs.YthopphfehgdocaaGreatDoor
