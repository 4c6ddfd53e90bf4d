import Derived.Test.YthopphfehgdocaaGreatDoorBf3
import Derived.Test.YthopphfehgdocaaGreatDoorClk2
namespace Go.Proofs.YthopphfehgdocaaGreatDoor
open Go Go.RowKit Go.Ev Go.Proofs Go.Shelf
set_option linter.unusedSimpArgs false
set_option linter.unusedVariables false
/-! ### The texts of a second -/
def t1B (Y M D h i s : Int) : ByteArray := ⟨#[dgF (Y / 1000), dgF (Y / 100 % 10), dgF (Y / 10 % 10), dgF (Y % 10), 45, dgF ((M + 1) / 10), dgF ((M + 1) % 10), 45, dgF ((D) / 10), dgF ((D) % 10), 32, dgF ((h) / 10), dgF ((h) % 10), 58, dgF ((i) / 10), dgF ((i) % 10), 58, dgF ((s) / 10), dgF ((s) % 10)]⟩
def t2B (W M D h i s Y : Int) : ByteArray := ⟨#[dnF W 0, dnF W 1, dnF W 2, 32, mnF M 0, mnF M 1, mnF M 2, 32, spF D, dgF (D % 10), 32, dgF ((h) / 10), dgF ((h) % 10), 58, dgF ((i) / 10), dgF ((i) % 10), 58, dgF ((s) / 10), dgF ((s) % 10), 32, dgF (Y / 1000), dgF (Y / 100 % 10), dgF (Y / 10 % 10), dgF (Y % 10)]⟩
def t4B (D M Y h i s : Int) : ByteArray := ⟨#[dgF ((D) / 10), dgF ((D) % 10), 47, mnF M 0, mnF M 1, mnF M 2, 47, dgF (Y / 1000), dgF (Y / 100 % 10), dgF (Y / 10 % 10), dgF (Y % 10), 32, dgF ((Int.tmod (h + 11) 12 + 1) / 10), dgF ((Int.tmod (h + 11) 12 + 1) % 10), 58, dgF ((i) / 10), dgF ((i) % 10), 58, dgF ((s) / 10), dgF ((s) % 10), if h < 12 then 65 else 80, 77, 32, 43, 48, 48, 48, 48]⟩
def t5B (J Y h i s : Int) : ByteArray := ⟨#[dgF (J / 100), dgF (J / 10 % 10), dgF (J % 10), 32, dgF (Y / 1000), dgF (Y / 100 % 10), dgF (Y / 10 % 10), dgF (Y % 10), 32, dgF ((h) / 10), dgF ((h) % 10), 58, dgF ((i) / 10), dgF ((i) % 10), 58, dgF ((s) / 10), dgF ((s) % 10)]⟩
def t6B (Y M D h i s : Int) : ByteArray := ⟨#[dgF ((Int.tdiv Y 100) / 10), dgF ((Int.tdiv Y 100) % 10), dgF ((Int.tmod Y 100) / 10), dgF ((Int.tmod Y 100) % 10), dgF ((M + 1) / 10), dgF ((M + 1) % 10), dgF ((D) / 10), dgF ((D) % 10), 84, dgF ((h) / 10), dgF ((h) % 10), dgF ((i) / 10), dgF ((i) % 10), dgF ((s) / 10), dgF ((s) % 10)]⟩
def txF (k : Nat) (n : Int) : ByteArray := match k with
  | 1 => t1B (Clk.dateYear (n / 86400)) (Clk.dateMonth (n / 86400)) (Clk.dateDay (n / 86400)) (n % 86400 / 3600) (n % 3600 / 60) (n % 60)
  | 2 => t2B (wdF (n / 86400)) (Clk.dateMonth (n / 86400)) (Clk.dateDay (n / 86400)) (n % 86400 / 3600) (n % 3600 / 60) (n % 60) (Clk.dateYear (n / 86400))
  | 4 => t4B (Clk.dateDay (n / 86400)) (Clk.dateMonth (n / 86400)) (Clk.dateYear (n / 86400)) (n % 86400 / 3600) (n % 3600 / 60) (n % 60)
  | 5 => t5B (n / 86400 - Clk.number (Clk.dateYear (n / 86400)) 0 1 + 1) (Clk.dateYear (n / 86400)) (n % 86400 / 3600) (n % 3600 / 60) (n % 60)
  | 6 => t6B (Clk.dateYear (n / 86400)) (Clk.dateMonth (n / 86400)) (Clk.dateDay (n / 86400)) (n % 86400 / 3600) (n % 3600 / 60) (n % 60)
  | _ => itoaF n
def yearN (n : Int) : Prop := -377705116800 ≤ n ∧ n ≤ 253402300799 ∧ 1000 ≤ Clk.dateYear (n / 86400)
theorem yday_in (d : Int) : 0 ≤ d - Clk.number (Clk.dateYear d) 0 1 ∧ d - Clk.number (Clk.dateYear d) 0 1 ≤ 365 := by
  have hn := Clk.number_date d
  have r := Clk.date_ranges d
  generalize Clk.dateYear d = Y at *
  generalize Clk.dateMonth d = M at *
  generalize Clk.dateDay d = D at *
  have e0 : ((0 : Int) < 2) := by decide
  unfold Clk.number at *
  simp only [if_pos e0] at *
  by_cases hm : M < 2
  · rw [if_pos hm] at hn
    have : M = 0 ∨ M = 1 := by omega
    rcases this with rfl | rfl <;> omega
  · rw [if_neg hm] at hn
    have hM : M = 2 ∨ M = 3 ∨ M = 4 ∨ M = 5 ∨ M = 6 ∨ M = 7 ∨ M = 8 ∨ M = 9 ∨ M = 10 ∨ M = 11 := by omega
    have hx : (153 * ((M + 10) % 12) + 2) / 5 ≤ 275 ∧ 0 ≤ (153 * ((M + 10) % 12) + 2) / 5 := by omega
    by_cases h4 : Y % 400 = 0
    · have a1 : (Y - 1) / 400 = Y / 400 - 1 := by omega
      have a2 : (Y - 1) % 400 = 399 := by omega
      rw [a1, a2]
      rw [h4] at hn
      omega
    · have a1 : (Y - 1) / 400 = Y / 400 := by omega
      have a2 : (Y - 1) % 400 = Y % 400 - 1 := by omega
      rw [a1, a2]
      generalize Y % 400 = q at *
      omega
section
variable (Y M D ho mi : Int) (S : Nat) (W J : Int)
theorem tw_ok (k : Int) (a : 0 ≤ k) (b : k ≤ 99) : ((tw2F k) == true) = true := by
  have : tw2F k = true := by
    unfold tw2F
    simp only [Bool.and_eq_true, decide_eq_true_eq]
    exact ⟨a, b⟩
  rw [this]; rfl
theorem fmt_ev1 (h : isoKF Y M D ho mi S = true) : ∃ H' nx', evFunc (withB laF []) 120 9 #[.agg #[.int .i64 Y, .int .i64 M, .int .i64 D, .int .i64 ho, .int .i64 mi, .float .f64 S, .int .i64 W, .int .i64 J], .string fb1] H0 12 = some (.tuple #[.string (txF 1 (nsF Y M D ho mi S)), .int .i64 0], H', nx') := by
  unfold isoKF at h
  simp only [Bool.and_eq_true] at h
  obtain ⟨h1, h2⟩ := h
  have hy := h2
  unfold it4F at hy
  simp only [Bool.and_eq_true, decide_eq_true_eq] at hy
  obtain ⟨n, hn, n1, n2, hY, hM, hD, ho', hmi, hS, hs⟩ := isT_spec h1
  have r := Clk.date_ranges (n / 86400)
  have hb : (n % 60).natAbs < 2 ^ 53 := by omega
  have f1 : froundOk S = true := by rw [hS]; exact Clk.froundOk_fo _ hb
  have f2 : fround .down S = S := by rw [hS]; exact Clk.fround_fo _ hb
  have f3 : f2iOk .f64 S .i64 = true := by rw [hS]; exact Clk.f2iOk_fo _ hb
  have w1 : IntKind.i64.wrap (M + 1) = M + 1 := wrap_id _ (by omega) (by omega)
  have w2 : IntKind.i64.wrap (Int.tdiv Y 100) = Int.tdiv Y 100 := wrap_id _ (by rw [Int.tdiv_eq_ediv_of_nonneg (by omega)]; omega) (by rw [Int.tdiv_eq_ediv_of_nonneg (by omega)]; omega)
  have q1 : Int.tdiv Y 100 = Y / 100 := Int.tdiv_eq_ediv_of_nonneg (by omega)
  have q2 : Int.tmod Y 100 = Y % 100 := Int.tmod_eq_emod_of_nonneg (by omega)
  have w3 : IntKind.i64.wrap (ho + 11) = ho + 11 := wrap_id _ (by omega) (by omega)
  have q3 : Int.tmod (ho + 11) 12 = (ho + 11) % 12 := Int.tmod_eq_emod_of_nonneg (by omega)
  have w4 : IntKind.i64.wrap (Int.tmod (ho + 11) 12 + 1) = Int.tmod (ho + 11) 12 + 1 := wrap_id _ (by omega) (by omega)
  have yd := yday_in (n / 86400)
  rw [← hY] at yd
  have w5 : IntKind.i64.wrap (n / 86400 - Clk.number Y 0 1 + 1) = n / 86400 - Clk.number Y 0 1 + 1 := wrap_id _ (by omega) (by omega)
  have p3 : ((padOkF (n / 86400 - Clk.number Y 0 1 + 1) 3) == true) = true := by
    have : padOkF (n / 86400 - Clk.number Y 0 1 + 1) 3 = true := by
      unfold padOkF
      simp only [Bool.and_eq_true, decide_eq_true_eq, if_true]
      omega
    rw [this]; rfl
  have p2 : ((padOkF D 2) == true) = true := by
    have : padOkF D 2 = true := by
      unfold padOkF
      simp only [Bool.and_eq_true, decide_eq_true_eq]
      rw [if_neg (by decide)]
      omega
    rw [this]; rfl
  have wd : 0 ≤ wdF (n / 86400) ∧ wdF (n / 86400) ≤ 6 := by
    unfold wdF
    omega
  have d3 : ((da3KF (wdF (n / 86400))) == true) = true := by
    have : da3KF (wdF (n / 86400)) = true := by
      unfold da3KF
      simp only [Bool.and_eq_true, decide_eq_true_eq]
      exact wd
    rw [this]; rfl
  have m3 : ((dm3KF M) == true) = true := by
    have : dm3KF M = true := by
      unfold dm3KF
      simp only [Bool.and_eq_true, decide_eq_true_eq]
      omega
    rw [this]; rfl
  have i4 : ((it4F Y) == true) = true := by rw [h2]; rfl
  have t0 : ((isTF Y M D ho mi S) == true) = true := by rw [h1]; rfl
  have sc : ((tw2F (f2i .f64 (fround .down S))) == true) = true := by rw [f2, hs]; exact tw_ok _ (by omega) (by omega)
  obtain ⟨H', nx', e⟩ := fmr1 Y M D ho mi S W J t0 i4 (by rw [w1]; exact tw_ok _ (by omega) (by omega)) (tw_ok _ (by omega) (by omega)) (tw_ok _ (by omega) (by omega)) (tw_ok _ (by omega) (by omega)) f1 (by rw [f2]; exact f3) sc
  refine ⟨H', nx', ?_⟩
  rw [e, f2, hn]
  unfold txF t1B
  simp only [← hY, ← hM, ← hD, ← ho', ← hmi, ← hs, by8_eq, w1, w2, w3, w4, w5]
theorem fmt_ev2 (h : isoKF Y M D ho mi S = true) : ∃ H' nx', evFunc (withB laF []) 120 9 #[.agg #[.int .i64 Y, .int .i64 M, .int .i64 D, .int .i64 ho, .int .i64 mi, .float .f64 S, .int .i64 W, .int .i64 J], .string fb2] H0 12 = some (.tuple #[.string (txF 2 (nsF Y M D ho mi S)), .int .i64 0], H', nx') := by
  unfold isoKF at h
  simp only [Bool.and_eq_true] at h
  obtain ⟨h1, h2⟩ := h
  have hy := h2
  unfold it4F at hy
  simp only [Bool.and_eq_true, decide_eq_true_eq] at hy
  obtain ⟨n, hn, n1, n2, hY, hM, hD, ho', hmi, hS, hs⟩ := isT_spec h1
  have r := Clk.date_ranges (n / 86400)
  have hb : (n % 60).natAbs < 2 ^ 53 := by omega
  have f1 : froundOk S = true := by rw [hS]; exact Clk.froundOk_fo _ hb
  have f2 : fround .down S = S := by rw [hS]; exact Clk.fround_fo _ hb
  have f3 : f2iOk .f64 S .i64 = true := by rw [hS]; exact Clk.f2iOk_fo _ hb
  have w1 : IntKind.i64.wrap (M + 1) = M + 1 := wrap_id _ (by omega) (by omega)
  have w2 : IntKind.i64.wrap (Int.tdiv Y 100) = Int.tdiv Y 100 := wrap_id _ (by rw [Int.tdiv_eq_ediv_of_nonneg (by omega)]; omega) (by rw [Int.tdiv_eq_ediv_of_nonneg (by omega)]; omega)
  have q1 : Int.tdiv Y 100 = Y / 100 := Int.tdiv_eq_ediv_of_nonneg (by omega)
  have q2 : Int.tmod Y 100 = Y % 100 := Int.tmod_eq_emod_of_nonneg (by omega)
  have w3 : IntKind.i64.wrap (ho + 11) = ho + 11 := wrap_id _ (by omega) (by omega)
  have q3 : Int.tmod (ho + 11) 12 = (ho + 11) % 12 := Int.tmod_eq_emod_of_nonneg (by omega)
  have w4 : IntKind.i64.wrap (Int.tmod (ho + 11) 12 + 1) = Int.tmod (ho + 11) 12 + 1 := wrap_id _ (by omega) (by omega)
  have yd := yday_in (n / 86400)
  rw [← hY] at yd
  have w5 : IntKind.i64.wrap (n / 86400 - Clk.number Y 0 1 + 1) = n / 86400 - Clk.number Y 0 1 + 1 := wrap_id _ (by omega) (by omega)
  have p3 : ((padOkF (n / 86400 - Clk.number Y 0 1 + 1) 3) == true) = true := by
    have : padOkF (n / 86400 - Clk.number Y 0 1 + 1) 3 = true := by
      unfold padOkF
      simp only [Bool.and_eq_true, decide_eq_true_eq, if_true]
      omega
    rw [this]; rfl
  have p2 : ((padOkF D 2) == true) = true := by
    have : padOkF D 2 = true := by
      unfold padOkF
      simp only [Bool.and_eq_true, decide_eq_true_eq]
      rw [if_neg (by decide)]
      omega
    rw [this]; rfl
  have wd : 0 ≤ wdF (n / 86400) ∧ wdF (n / 86400) ≤ 6 := by
    unfold wdF
    omega
  have d3 : ((da3KF (wdF (n / 86400))) == true) = true := by
    have : da3KF (wdF (n / 86400)) = true := by
      unfold da3KF
      simp only [Bool.and_eq_true, decide_eq_true_eq]
      exact wd
    rw [this]; rfl
  have m3 : ((dm3KF M) == true) = true := by
    have : dm3KF M = true := by
      unfold dm3KF
      simp only [Bool.and_eq_true, decide_eq_true_eq]
      omega
    rw [this]; rfl
  have i4 : ((it4F Y) == true) = true := by rw [h2]; rfl
  have t0 : ((isTF Y M D ho mi S) == true) = true := by rw [h1]; rfl
  have sc : ((tw2F (f2i .f64 (fround .down S))) == true) = true := by rw [f2, hs]; exact tw_ok _ (by omega) (by omega)
  obtain ⟨H', nx', e⟩ := fmr2 Y M D ho mi S W J t0 (by rw [hn]; exact d3) m3 p2 (tw_ok _ (by omega) (by omega)) (tw_ok _ (by omega) (by omega)) f1 (by rw [f2]; exact f3) sc i4
  refine ⟨H', nx', ?_⟩
  rw [e, f2, hn]
  unfold txF t2B
  simp only [← hY, ← hM, ← hD, ← ho', ← hmi, ← hs, by8_eq, w1, w2, w3, w4, w5]
theorem fmt_ev4 (h : isoKF Y M D ho mi S = true) : ∃ H' nx', evFunc (withB laF []) 120 9 #[.agg #[.int .i64 Y, .int .i64 M, .int .i64 D, .int .i64 ho, .int .i64 mi, .float .f64 S, .int .i64 W, .int .i64 J], .string fb4] H0 12 = some (.tuple #[.string (txF 4 (nsF Y M D ho mi S)), .int .i64 0], H', nx') := by
  unfold isoKF at h
  simp only [Bool.and_eq_true] at h
  obtain ⟨h1, h2⟩ := h
  have hy := h2
  unfold it4F at hy
  simp only [Bool.and_eq_true, decide_eq_true_eq] at hy
  obtain ⟨n, hn, n1, n2, hY, hM, hD, ho', hmi, hS, hs⟩ := isT_spec h1
  have r := Clk.date_ranges (n / 86400)
  have hb : (n % 60).natAbs < 2 ^ 53 := by omega
  have f1 : froundOk S = true := by rw [hS]; exact Clk.froundOk_fo _ hb
  have f2 : fround .down S = S := by rw [hS]; exact Clk.fround_fo _ hb
  have f3 : f2iOk .f64 S .i64 = true := by rw [hS]; exact Clk.f2iOk_fo _ hb
  have w1 : IntKind.i64.wrap (M + 1) = M + 1 := wrap_id _ (by omega) (by omega)
  have w2 : IntKind.i64.wrap (Int.tdiv Y 100) = Int.tdiv Y 100 := wrap_id _ (by rw [Int.tdiv_eq_ediv_of_nonneg (by omega)]; omega) (by rw [Int.tdiv_eq_ediv_of_nonneg (by omega)]; omega)
  have q1 : Int.tdiv Y 100 = Y / 100 := Int.tdiv_eq_ediv_of_nonneg (by omega)
  have q2 : Int.tmod Y 100 = Y % 100 := Int.tmod_eq_emod_of_nonneg (by omega)
  have w3 : IntKind.i64.wrap (ho + 11) = ho + 11 := wrap_id _ (by omega) (by omega)
  have q3 : Int.tmod (ho + 11) 12 = (ho + 11) % 12 := Int.tmod_eq_emod_of_nonneg (by omega)
  have w4 : IntKind.i64.wrap (Int.tmod (ho + 11) 12 + 1) = Int.tmod (ho + 11) 12 + 1 := wrap_id _ (by omega) (by omega)
  have yd := yday_in (n / 86400)
  rw [← hY] at yd
  have w5 : IntKind.i64.wrap (n / 86400 - Clk.number Y 0 1 + 1) = n / 86400 - Clk.number Y 0 1 + 1 := wrap_id _ (by omega) (by omega)
  have p3 : ((padOkF (n / 86400 - Clk.number Y 0 1 + 1) 3) == true) = true := by
    have : padOkF (n / 86400 - Clk.number Y 0 1 + 1) 3 = true := by
      unfold padOkF
      simp only [Bool.and_eq_true, decide_eq_true_eq, if_true]
      omega
    rw [this]; rfl
  have p2 : ((padOkF D 2) == true) = true := by
    have : padOkF D 2 = true := by
      unfold padOkF
      simp only [Bool.and_eq_true, decide_eq_true_eq]
      rw [if_neg (by decide)]
      omega
    rw [this]; rfl
  have wd : 0 ≤ wdF (n / 86400) ∧ wdF (n / 86400) ≤ 6 := by
    unfold wdF
    omega
  have d3 : ((da3KF (wdF (n / 86400))) == true) = true := by
    have : da3KF (wdF (n / 86400)) = true := by
      unfold da3KF
      simp only [Bool.and_eq_true, decide_eq_true_eq]
      exact wd
    rw [this]; rfl
  have m3 : ((dm3KF M) == true) = true := by
    have : dm3KF M = true := by
      unfold dm3KF
      simp only [Bool.and_eq_true, decide_eq_true_eq]
      omega
    rw [this]; rfl
  have i4 : ((it4F Y) == true) = true := by rw [h2]; rfl
  have t0 : ((isTF Y M D ho mi S) == true) = true := by rw [h1]; rfl
  have sc : ((tw2F (f2i .f64 (fround .down S))) == true) = true := by rw [f2, hs]; exact tw_ok _ (by omega) (by omega)
  cases c : decide (ho < 12) with
  | true =>
    obtain ⟨H', nx', e⟩ := fmr4a Y M D ho mi S W J t0 (tw_ok _ (by omega) (by omega)) m3 i4 (by rw [w3, w4, q3]; exact tw_ok _ (by omega) (by omega)) (tw_ok _ (by omega) (by omega)) f1 (by rw [f2]; exact f3) sc (by rw [c]; rfl)
    refine ⟨H', nx', ?_⟩
    rw [e, f2, hn]
    unfold txF t4B
    have c2 := of_decide_eq_true c
    simp only [← hY, ← hM, ← hD, ← ho', ← hmi, ← hs, by8_eq, w1, w2, w3, w4, w5]
    rw [if_pos c2]
  | false =>
    obtain ⟨H', nx', e⟩ := fmr4p Y M D ho mi S W J t0 (tw_ok _ (by omega) (by omega)) m3 i4 (by rw [w3, w4, q3]; exact tw_ok _ (by omega) (by omega)) (tw_ok _ (by omega) (by omega)) f1 (by rw [f2]; exact f3) sc (by rw [c]; rfl)
    refine ⟨H', nx', ?_⟩
    rw [e, f2, hn]
    unfold txF t4B
    have c2 := of_decide_eq_false c
    simp only [← hY, ← hM, ← hD, ← ho', ← hmi, ← hs, by8_eq, w1, w2, w3, w4, w5]
    rw [if_neg c2]
theorem fmt_ev5 (h : isoKF Y M D ho mi S = true) : ∃ H' nx', evFunc (withB laF []) 120 9 #[.agg #[.int .i64 Y, .int .i64 M, .int .i64 D, .int .i64 ho, .int .i64 mi, .float .f64 S, .int .i64 W, .int .i64 J], .string fb5] H0 12 = some (.tuple #[.string (txF 5 (nsF Y M D ho mi S)), .int .i64 0], H', nx') := by
  unfold isoKF at h
  simp only [Bool.and_eq_true] at h
  obtain ⟨h1, h2⟩ := h
  have hy := h2
  unfold it4F at hy
  simp only [Bool.and_eq_true, decide_eq_true_eq] at hy
  obtain ⟨n, hn, n1, n2, hY, hM, hD, ho', hmi, hS, hs⟩ := isT_spec h1
  have r := Clk.date_ranges (n / 86400)
  have hb : (n % 60).natAbs < 2 ^ 53 := by omega
  have f1 : froundOk S = true := by rw [hS]; exact Clk.froundOk_fo _ hb
  have f2 : fround .down S = S := by rw [hS]; exact Clk.fround_fo _ hb
  have f3 : f2iOk .f64 S .i64 = true := by rw [hS]; exact Clk.f2iOk_fo _ hb
  have w1 : IntKind.i64.wrap (M + 1) = M + 1 := wrap_id _ (by omega) (by omega)
  have w2 : IntKind.i64.wrap (Int.tdiv Y 100) = Int.tdiv Y 100 := wrap_id _ (by rw [Int.tdiv_eq_ediv_of_nonneg (by omega)]; omega) (by rw [Int.tdiv_eq_ediv_of_nonneg (by omega)]; omega)
  have q1 : Int.tdiv Y 100 = Y / 100 := Int.tdiv_eq_ediv_of_nonneg (by omega)
  have q2 : Int.tmod Y 100 = Y % 100 := Int.tmod_eq_emod_of_nonneg (by omega)
  have w3 : IntKind.i64.wrap (ho + 11) = ho + 11 := wrap_id _ (by omega) (by omega)
  have q3 : Int.tmod (ho + 11) 12 = (ho + 11) % 12 := Int.tmod_eq_emod_of_nonneg (by omega)
  have w4 : IntKind.i64.wrap (Int.tmod (ho + 11) 12 + 1) = Int.tmod (ho + 11) 12 + 1 := wrap_id _ (by omega) (by omega)
  have yd := yday_in (n / 86400)
  rw [← hY] at yd
  have w5 : IntKind.i64.wrap (n / 86400 - Clk.number Y 0 1 + 1) = n / 86400 - Clk.number Y 0 1 + 1 := wrap_id _ (by omega) (by omega)
  have p3 : ((padOkF (n / 86400 - Clk.number Y 0 1 + 1) 3) == true) = true := by
    have : padOkF (n / 86400 - Clk.number Y 0 1 + 1) 3 = true := by
      unfold padOkF
      simp only [Bool.and_eq_true, decide_eq_true_eq, if_true]
      omega
    rw [this]; rfl
  have p2 : ((padOkF D 2) == true) = true := by
    have : padOkF D 2 = true := by
      unfold padOkF
      simp only [Bool.and_eq_true, decide_eq_true_eq]
      rw [if_neg (by decide)]
      omega
    rw [this]; rfl
  have wd : 0 ≤ wdF (n / 86400) ∧ wdF (n / 86400) ≤ 6 := by
    unfold wdF
    omega
  have d3 : ((da3KF (wdF (n / 86400))) == true) = true := by
    have : da3KF (wdF (n / 86400)) = true := by
      unfold da3KF
      simp only [Bool.and_eq_true, decide_eq_true_eq]
      exact wd
    rw [this]; rfl
  have m3 : ((dm3KF M) == true) = true := by
    have : dm3KF M = true := by
      unfold dm3KF
      simp only [Bool.and_eq_true, decide_eq_true_eq]
      omega
    rw [this]; rfl
  have i4 : ((it4F Y) == true) = true := by rw [h2]; rfl
  have t0 : ((isTF Y M D ho mi S) == true) = true := by rw [h1]; rfl
  have sc : ((tw2F (f2i .f64 (fround .down S))) == true) = true := by rw [f2, hs]; exact tw_ok _ (by omega) (by omega)
  obtain ⟨H', nx', e⟩ := fmr5 Y M D ho mi S W J t0 (by rw [hn, w5]; exact p3) i4 (tw_ok _ (by omega) (by omega)) (tw_ok _ (by omega) (by omega)) f1 (by rw [f2]; exact f3) sc
  refine ⟨H', nx', ?_⟩
  rw [e, f2, hn]
  unfold txF t5B
  simp only [← hY, ← hM, ← hD, ← ho', ← hmi, ← hs, by8_eq, w1, w2, w3, w4, w5]
theorem fmt_ev6 (h : isoKF Y M D ho mi S = true) : ∃ H' nx', evFunc (withB laF []) 120 9 #[.agg #[.int .i64 Y, .int .i64 M, .int .i64 D, .int .i64 ho, .int .i64 mi, .float .f64 S, .int .i64 W, .int .i64 J], .string fb6] H0 12 = some (.tuple #[.string (txF 6 (nsF Y M D ho mi S)), .int .i64 0], H', nx') := by
  unfold isoKF at h
  simp only [Bool.and_eq_true] at h
  obtain ⟨h1, h2⟩ := h
  have hy := h2
  unfold it4F at hy
  simp only [Bool.and_eq_true, decide_eq_true_eq] at hy
  obtain ⟨n, hn, n1, n2, hY, hM, hD, ho', hmi, hS, hs⟩ := isT_spec h1
  have r := Clk.date_ranges (n / 86400)
  have hb : (n % 60).natAbs < 2 ^ 53 := by omega
  have f1 : froundOk S = true := by rw [hS]; exact Clk.froundOk_fo _ hb
  have f2 : fround .down S = S := by rw [hS]; exact Clk.fround_fo _ hb
  have f3 : f2iOk .f64 S .i64 = true := by rw [hS]; exact Clk.f2iOk_fo _ hb
  have w1 : IntKind.i64.wrap (M + 1) = M + 1 := wrap_id _ (by omega) (by omega)
  have w2 : IntKind.i64.wrap (Int.tdiv Y 100) = Int.tdiv Y 100 := wrap_id _ (by rw [Int.tdiv_eq_ediv_of_nonneg (by omega)]; omega) (by rw [Int.tdiv_eq_ediv_of_nonneg (by omega)]; omega)
  have q1 : Int.tdiv Y 100 = Y / 100 := Int.tdiv_eq_ediv_of_nonneg (by omega)
  have q2 : Int.tmod Y 100 = Y % 100 := Int.tmod_eq_emod_of_nonneg (by omega)
  have w3 : IntKind.i64.wrap (ho + 11) = ho + 11 := wrap_id _ (by omega) (by omega)
  have q3 : Int.tmod (ho + 11) 12 = (ho + 11) % 12 := Int.tmod_eq_emod_of_nonneg (by omega)
  have w4 : IntKind.i64.wrap (Int.tmod (ho + 11) 12 + 1) = Int.tmod (ho + 11) 12 + 1 := wrap_id _ (by omega) (by omega)
  have yd := yday_in (n / 86400)
  rw [← hY] at yd
  have w5 : IntKind.i64.wrap (n / 86400 - Clk.number Y 0 1 + 1) = n / 86400 - Clk.number Y 0 1 + 1 := wrap_id _ (by omega) (by omega)
  have p3 : ((padOkF (n / 86400 - Clk.number Y 0 1 + 1) 3) == true) = true := by
    have : padOkF (n / 86400 - Clk.number Y 0 1 + 1) 3 = true := by
      unfold padOkF
      simp only [Bool.and_eq_true, decide_eq_true_eq, if_true]
      omega
    rw [this]; rfl
  have p2 : ((padOkF D 2) == true) = true := by
    have : padOkF D 2 = true := by
      unfold padOkF
      simp only [Bool.and_eq_true, decide_eq_true_eq]
      rw [if_neg (by decide)]
      omega
    rw [this]; rfl
  have wd : 0 ≤ wdF (n / 86400) ∧ wdF (n / 86400) ≤ 6 := by
    unfold wdF
    omega
  have d3 : ((da3KF (wdF (n / 86400))) == true) = true := by
    have : da3KF (wdF (n / 86400)) = true := by
      unfold da3KF
      simp only [Bool.and_eq_true, decide_eq_true_eq]
      exact wd
    rw [this]; rfl
  have m3 : ((dm3KF M) == true) = true := by
    have : dm3KF M = true := by
      unfold dm3KF
      simp only [Bool.and_eq_true, decide_eq_true_eq]
      omega
    rw [this]; rfl
  have i4 : ((it4F Y) == true) = true := by rw [h2]; rfl
  have t0 : ((isTF Y M D ho mi S) == true) = true := by rw [h1]; rfl
  have sc : ((tw2F (f2i .f64 (fround .down S))) == true) = true := by rw [f2, hs]; exact tw_ok _ (by omega) (by omega)
  obtain ⟨H', nx', e⟩ := fmr6 Y M D ho mi S W J t0 (by rw [q2, decide_eq_false (by omega)]; rfl) (by rw [w2, q1]; exact tw_ok _ (by omega) (by omega)) (by rw [q2]; exact tw_ok _ (by omega) (by omega)) (by rw [w1]; exact tw_ok _ (by omega) (by omega)) (tw_ok _ (by omega) (by omega)) (tw_ok _ (by omega) (by omega)) (tw_ok _ (by omega) (by omega)) f1 (by rw [f2]; exact f3) sc
  refine ⟨H', nx', ?_⟩
  rw [e, f2, hn]
  unfold txF t6B
  simp only [← hY, ← hM, ← hD, ← ho', ← hmi, ← hs, by8_eq, w1, w2, w3, w4, w5]
end
end Go.Proofs.YthopphfehgdocaaGreatDoor
namespace Go.Proofs.YthopphfehgdocaaGreatDoor
open Go Go.RowKit Go.Ev Go.Proofs Go.Shelf
set_option linter.unusedSimpArgs false
set_option linter.unusedVariables false
/-! ### Numerals of a known length -/
def litL : Nat → Int → List UInt8
  | 0, _ => []
  | l + 1, n => litL l (n / 10) ++ [dgF (n % 10)]
def litS (neg : Bool) (l : Nat) (n : Int) : List UInt8 := match neg with
  | true => 45 :: litL l (0 - n)
  | false => litL l n
theorem dec_lit : ∀ (l u : Nat), u < 10 ^ (l + 1) → (l = 0 ∨ 10 ^ l ≤ u) → Lib.decDigits u = litL (l + 1) (u : Int)
  | 0, u, h, _ => by
    have h' : u < 10 := by simpa using h
    rw [dec1 h']
    have e : ((u : Int) % 10).toNat = u := by omega
    simp [litL, dgF, e]
  | l + 1, u, h, h2 => by
    have hp : 10 ^ (l + 1) = 10 * 10 ^ l := by rw [Nat.pow_succ, Nat.mul_comm]
    have hp2 : 10 ^ (l + 1 + 1) = 10 * 10 ^ (l + 1) := by rw [Nat.pow_succ, Nat.mul_comm]
    have h2' : 10 ^ (l + 1) ≤ u := by rcases h2 with h2 | h2 <;> omega
    have hpos : 0 < 10 ^ l := Nat.pow_pos (by decide)
    rw [dec2 (by omega), dec_lit l (u / 10) (by omega) (.inr (by omega))]
    have e1 : ((u / 10 : Nat) : Int) = (u : Int) / 10 := by omega
    have e2 : u % 10 = ((u : Int) % 10).toNat := by omega
    rw [e1]
    show _ = litL (l + 1) ((u : Int) / 10) ++ [dgF ((u : Int) % 10)]
    unfold dgF
    rw [e2]
def itsOkF (neg : Bool) (l : Nat) (n : Int) : Bool := match neg with
  | true => decide (n < 0) && (decide ((-n).toNat < 10 ^ (l + 1)) && (decide (l = 0) || decide (10 ^ l ≤ (-n).toNat)))
  | false => decide (0 ≤ n) && (decide (n.toNat < 10 ^ (l + 1)) && (decide (l = 0) || decide (10 ^ l ≤ n.toNat)))
theorem itoa_lit {neg : Bool} {l : Nat} {n : Int} (h : itsOkF neg l n = true) : itoaF n = ⟨(litS neg (l + 1) n).toArray⟩ := by
  unfold itoaF Lib.itoa
  cases neg with
  | true =>
    unfold itsOkF at h
    simp only [Bool.and_eq_true, Bool.or_eq_true, decide_eq_true_eq] at h
    rw [if_pos h.1]
    have e : n.natAbs = (-n).toNat := by omega
    have e2 : (((-n).toNat : Nat) : Int) = 0 - n := by omega
    rw [e, dec_lit l _ h.2.1 h.2.2, e2]
    rfl
  | false =>
    unfold itsOkF at h
    simp only [Bool.and_eq_true, Bool.or_eq_true, decide_eq_true_eq] at h
    rw [if_neg (by omega)]
    have e2 : ((n.toNat : Nat) : Int) = n := by omega
    rw [dec_lit l _ h.2.1 h.2.2, e2]
    rfl
def itsV (neg : Bool) (l : Nat) (args : Array Value) : Option Value := match args.toList with
  | [.int .i64 n] => some (.string ⟨(litS neg (l + 1) n).toArray⟩)
  | _ => none
def itsK (neg : Bool) (l : Nat) (args : Array Value) : Bool := match args.toList with
  | [.int .i64 n] => (itsOkF neg l n && i64F n) == true
  | _ => false
def itsA (neg : Bool) (l : Nat) : AFn := { f := 94, val := itsV neg l, ok := itsK neg l }
theorem its_sound (neg : Bool) (l : Nat) : PSound cx0 (itsA neg l).pfn := psound_narrow (e := itoaA.pfn) rfl (fun args v h => by
  obtain ⟨hv, hk⟩ := afn_some h
  replace hv : itsV neg l args = some v := hv
  replace hk : itsK neg l args = true := hk
  unfold itsV at hv
  split at hv
  · rename_i n hx
    have ha := args_list hx
    subst ha
    cases hv
    have hok : (itsOkF neg l n && i64F n) = true := by simpa [itsK] using hk
    simp only [Bool.and_eq_true] at hok
    refine AFn.p_of ?_ ?_
    · show some (Value.string (itoaF n)) = _
      rw [itoa_lit hok.1]
    · show (i64F n == true) = true
      rw [hok.2]; rfl
  · cases hv) itoa_sound
def laI (neg : Bool) (l : Nat) : List AFn := [norm2A, itsA neg l]
theorem laI_sound (neg : Bool) (l : Nat) : ∀ e ∈ laI neg l, PSound cx0 e.pfn := asound_cons norm2_sound (asound_cons (its_sound neg l) asound_nil)
end Go.Proofs.YthopphfehgdocaaGreatDoor
