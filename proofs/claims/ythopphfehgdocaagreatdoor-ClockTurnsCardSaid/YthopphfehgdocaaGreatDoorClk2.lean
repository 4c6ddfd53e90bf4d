
namespace Clk
/-- the year within 400 of a day within 400 years, and what is left -/
def yr (d : Nat) : Nat := (d - d / 1460 + d / 36524 - d / 146096) / 365
def ahead (y : Nat) : Nat := 365 * y + y / 4 - y / 100
def ok (d : Nat) : Bool := Nat.ble 146097 d || (Nat.blt (yr d) 400 && Nat.ble (ahead (yr d)) d && Nat.blt d (ahead (yr d) + 366))
def chk : Nat → Nat → Bool
  | 0, s => ok s
  | k + 1, s => chk k s && chk k (s + 2 ^ k)
theorem chk_all : chk 18 0 = true := by decide +kernel
theorem chk_spec : ∀ (k s : Nat), chk k s = true → ∀ d, s ≤ d → d < s + 2 ^ k → ok d = true
  | 0, s, h, d, h1, h2 => by
    have : d = s := by simp at h2; omega
    subst this; exact h
  | k + 1, s, h, d, h1, h2 => by
    simp only [chk, Bool.and_eq_true] at h
    rw [Nat.pow_succ] at h2
    by_cases hd : d < s + 2 ^ k
    · exact chk_spec k s h.1 d h1 hd
    · exact chk_spec k (s + 2 ^ k) h.2 d (by omega) (by omega)
theorem yr_spec (d : Nat) (h : d < 146097) : yr d < 400 ∧ ahead (yr d) ≤ d ∧ d < ahead (yr d) + 366 := by
  have := chk_spec 18 0 chk_all d (Nat.zero_le _) (by omega)
  unfold ok at this
  simp only [Bool.or_eq_true, Bool.and_eq_true] at this
  rcases this with h1 | ⟨⟨h1, h2⟩, h3⟩
  · have := Nat.le_of_ble_eq_true h1; omega
  · exact ⟨Nat.le_of_ble_eq_true h1, Nat.le_of_ble_eq_true h2, Nat.le_of_ble_eq_true h3⟩
end Clk
namespace Clk
def epoch : Int := 719468
def dateCyc (n : Int) : Int := (n + 719468) / 146097
def dateD (n : Int) : Int := (n + 719468) % 146097
def dateY (n : Int) : Int := (dateD n - dateD n / 1460 + dateD n / 36524 - dateD n / 146096) / 365
def dateDoy (n : Int) : Int := dateD n - (365 * dateY n + dateY n / 4 - dateY n / 100)
def dateM (n : Int) : Int := (5 * dateDoy n + 2) / 153
def dateDay (n : Int) : Int := dateDoy n - (153 * dateM n + 2) / 5 + 1
def dateYear (n : Int) : Int := if 10 ≤ dateM n then dateCyc n * 400 + dateY n + 1 else dateCyc n * 400 + dateY n
def dateMonth (n : Int) : Int := if 10 ≤ dateM n then dateM n - 10 else dateM n + 2
/-- a day's number -/
def number (year month day : Int) : Int :=
  let yy := if month < 2 then year - 1 else year
  let y := yy % 400
  let m := (month + 10) % 12
  yy / 400 * 146097 + y * 365 + y / 4 - y / 100 + (153 * m + 2) / 5 + day - 1 - 719468

theorem dateY_spec (n : Int) : 0 ≤ dateY n ∧ dateY n < 400 ∧ 0 ≤ dateDoy n ∧ dateDoy n < 366 := by
  have hd0 : 0 ≤ dateD n := by unfold dateD; omega
  have hd1 : dateD n < 146097 := by unfold dateD; omega
  obtain ⟨d, hd⟩ := Int.eq_ofNat_of_zero_le hd0
  have hlt : d < 146097 := by omega
  obtain ⟨h1, h2, h3⟩ := yr_spec d hlt
  have hy : dateY n = (yr d : Int) := by unfold dateY yr; rw [hd]; omega
  unfold ahead at h2 h3
  unfold dateDoy
  rw [hy, hd]
  omega
theorem date_ranges (n : Int) : 0 ≤ dateM n ∧ dateM n ≤ 11 ∧ 0 ≤ dateMonth n ∧ dateMonth n ≤ 11 ∧ 1 ≤ dateDay n ∧ dateDay n ≤ 31 := by
  obtain ⟨h1, h2, h3, h4⟩ := dateY_spec n
  have hm : dateM n = (5 * dateDoy n + 2) / 153 := rfl
  unfold dateMonth dateDay
  refine ⟨by omega, by omega, ?_, ?_, by omega, by omega⟩ <;> split <;> omega
/-- the number of a number's date is the number -/
theorem number_date (n : Int) : number (dateYear n) (dateMonth n) (dateDay n) = n := by
  obtain ⟨h1, h2, h3, h4⟩ := dateY_spec n
  obtain ⟨m1, m2, -, -, -, -⟩ := date_ranges n
  have hd : dateDoy n = dateD n - (365 * dateY n + dateY n / 4 - dateY n / 100) := rfl
  have hc : n + 719468 = 146097 * dateCyc n + dateD n := by unfold dateCyc dateD; omega
  unfold number dateYear dateMonth dateDay
  by_cases hm : 10 ≤ dateM n
  · simp only [hm, if_true]
    rw [if_pos (by omega)]
    have e1 : dateCyc n * 400 + dateY n + 1 - 1 = dateCyc n * 400 + dateY n := by omega
    have e2 : (dateCyc n * 400 + dateY n) / 400 = dateCyc n := by omega
    have e3 : (dateCyc n * 400 + dateY n) % 400 = dateY n := by omega
    have e4 : (dateM n - 10 + 10) % 12 = dateM n := by omega
    rw [e1, e2, e3, e4]
    omega
  · simp only [hm, if_false]
    rw [if_neg (by omega)]
    have e2 : (dateCyc n * 400 + dateY n) / 400 = dateCyc n := by omega
    have e3 : (dateCyc n * 400 + dateY n) % 400 = dateY n := by omega
    have e4 : (dateM n + 2 + 10) % 12 = dateM n := by omega
    rw [e2, e3, e4]
    omega
theorem number_day (y m d : Int) : number y m 1 + d - 1 = number y m d := by unfold number; simp only; omega
theorem dateYear_range (n : Int) (h1 : -4371587 ≤ n) (h2 : n ≤ 2932896) : -9999 ≤ dateYear n ∧ dateYear n ≤ 9999 := by
  obtain ⟨y1, y2, y3, y4⟩ := dateY_spec n
  have hd : dateDoy n = dateD n - (365 * dateY n + dateY n / 4 - dateY n / 100) := rfl
  have hc : n + 719468 = 146097 * dateCyc n + dateD n := by unfold dateCyc dateD; omega
  have hd0 : 0 ≤ dateD n := by unfold dateD; omega
  have hd1 : dateD n < 146097 := by unfold dateD; omega
  have hm : dateM n = (5 * dateDoy n + 2) / 153 := rfl
  have c1 : -25 ≤ dateCyc n := by omega
  have c2 : dateCyc n ≤ 24 := by omega
  unfold dateYear
  refine ⟨?_, ?_⟩
  · split
    · rcases Int.lt_or_le (-25) (dateCyc n) with q | q
      · omega
      · have : dateCyc n = -25 := by omega
        rw [this] at hc ⊢
        omega
    · rcases Int.lt_or_le (-25) (dateCyc n) with q | q
      · omega
      · have : dateCyc n = -25 := by omega
        rw [this] at hc ⊢
        omega
  · split
    · rename_i hm10
      rcases Int.lt_or_le (dateCyc n) 24 with q | q
      · omega
      · have : dateCyc n = 24 := by omega
        rw [this] at hc ⊢
        rcases Int.lt_or_le (dateY n) 399 with q | q
        · omega
        · have h9 : dateY n = 399 := by omega
          rw [h9] at hd
          omega
    · omega
end Clk
namespace Clk
/-- Join of Split is the number of seconds -/
theorem join_split (sec : Int) :
    (number (dateYear (sec / 86400)) (dateMonth (sec / 86400)) 1 + dateDay (sec / 86400) - 1) * 86400 + (sec % 86400 / 3600) * 3600 + (sec % 86400 / 60 % 60) * 60 + sec % 86400 % 60 = sec := by
  rw [number_day, number_date]
  omega
/-- the month of a date needs no turning -/
theorem month_div (n : Int) : dateMonth n / 12 = 0 ∧ dateMonth n % 12 = dateMonth n := by
  obtain ⟨-, -, h1, h2, -, -⟩ := date_ranges n
  omega
/-- Go's quotient and remainder, turned downwards, are Euclid's -/
theorem divide_eq (n b : Int) (hb : 0 < b) : (if Int.tmod n b < 0 then (Int.tdiv n b - 1, Int.tmod n b + b) else (Int.tdiv n b, Int.tmod n b)) = (n / b, n % b) := by
  have h1 : Int.tdiv n b * b + Int.tmod n b = n := by rw [Int.mul_comm]; exact Int.mul_tdiv_add_tmod n b
  have h2 : -b < Int.tmod n b := by
    rcases Int.lt_or_le n 0 with q | q
    · have := Int.tmod_lt_of_pos (-n) hb
      rw [Int.neg_tmod] at this
      omega
    · have := Int.tmod_nonneg b q
      omega
  have h3 : Int.tmod n b < b := Int.tmod_lt_of_pos n hb
  have e2 := Int.emod_nonneg n (show b ≠ 0 by omega)
  have e3 := Int.emod_lt_of_pos n hb
  split
  · have : Int.tdiv n b - 1 = n / b ∧ Int.tmod n b + b = n % b := by
      have := Int.ediv_emod_unique (a := n) (b := b) (r := Int.tmod n b + b) (q := Int.tdiv n b - 1) hb
      have h := this.2 ⟨by rw [Int.mul_sub, Int.mul_one, Int.mul_comm b]; omega, by omega, by omega⟩
      exact ⟨h.1.symm, h.2.symm⟩
    rw [this.1, this.2]
  · have : Int.tdiv n b = n / b ∧ Int.tmod n b = n % b := by
      have := Int.ediv_emod_unique (a := n) (b := b) (r := Int.tmod n b) (q := Int.tdiv n b) hb
      have h := this.2 ⟨by rw [Int.mul_comm b]; omega, by omega, by omega⟩
      exact ⟨h.1.symm, h.2.symm⟩
    rw [this.1, this.2]
end Clk
