set_option linter.unusedSimpArgs false
set_option linter.unusedVariables false
namespace Clk
def yr (d : Nat) : Nat := (d - d / 1460 + d / 36524 - d / 146096) / 365
def ahead (y : Nat) : Nat := 365 * y + y / 4 - y / 100
def ok (d : Nat) : Bool := Nat.ble 146097 d || (Nat.blt (yr d) 400 && Nat.ble (ahead (yr d)) d && Nat.blt d (ahead (yr d) + 366))
def chk : Nat → Nat → Bool
 | 0, s => ok s
 | k + 1, s => chk k s && chk k (s + 2 ^ k)
theorem chk_all : chk 18 0 = true := by decide +kernel
theorem chk_spec : ∀ (k s : Nat), chk k s = true → ∀ d, s ≤ d → d < s + 2 ^ k → ok d = true
 | 0, s, h, d, h1, h2 => by
  have : d = s := by simp at h2; omega
  subst this; exact h
 | k + 1, s, h, d, h1, h2 => by
  simp only [chk, Bool.and_eq_true] at h
  rw [Nat.pow_succ] at h2
  by_cases hd : d < s + 2 ^ k
  ·exact chk_spec k s h.1 d h1 hd
  ·exact chk_spec k (s + 2 ^ k) h.2 d (by omega) (by omega)
theorem yr_spec (d : Nat) (h : d < 146097) : yr d < 400 ∧ ahead (yr d) ≤ d ∧ d < ahead (yr d) + 366 := by
 have := chk_spec 18 0 chk_all d (Nat.zero_le _) (by omega)
 unfold ok at this
 simp only [Bool.or_eq_true, Bool.and_eq_true] at this
 rcases this with h1 | ⟨⟨h1, h2⟩, h3⟩
 ·have := Nat.le_of_ble_eq_true h1; omega
 ·exact ⟨Nat.le_of_ble_eq_true h1, Nat.le_of_ble_eq_true h2, Nat.le_of_ble_eq_true h3⟩
end Clk
namespace Clk
def dateCyc (n : Int) : Int := (n + 719468) / 146097
def dateD (n : Int) : Int := (n + 719468) % 146097
def dateY (n : Int) : Int := (dateD n - dateD n / 1460 + dateD n / 36524 - dateD n / 146096) / 365
def dateDoy (n : Int) : Int := dateD n - (365 * dateY n + dateY n / 4 - dateY n / 100)
def dateM (n : Int) : Int := (5 * dateDoy n + 2) / 153
def dateDay (n : Int) : Int := dateDoy n - (153 * dateM n + 2) / 5 + 1
def dateYear (n : Int) : Int := if 10 ≤ dateM n then dateCyc n * 400 + dateY n + 1 else dateCyc n * 400 + dateY n
def dateMonth (n : Int) : Int := if 10 ≤ dateM n then dateM n - 10 else dateM n + 2
def number (year month day : Int) : Int :=
 let yy := if month < 2 then year - 1 else year
 let y := yy % 400
 let m := (month + 10) % 12
 yy / 400 * 146097 + y * 365 + y / 4 - y / 100 + (153 * m + 2) / 5 + day - 1 - 719468
theorem dateY_spec (n : Int) : 0 ≤ dateY n ∧ dateY n < 400 ∧ 0 ≤ dateDoy n ∧ dateDoy n < 366 := by
 have hd0 : 0 ≤ dateD n := by unfold dateD; omega
 have hd1 : dateD n < 146097 := by unfold dateD; omega
 obtain ⟨d, hd⟩ := Int.eq_ofNat_of_zero_le hd0
 have hlt : d < 146097 := by omega
 obtain ⟨h1, h2, h3⟩ := yr_spec d hlt
 have hy : dateY n = (yr d : Int) := by unfold dateY yr; rw [hd]; omega
 unfold ahead at h2 h3
 unfold dateDoy
 rw [hy, hd]
 omega
theorem date_ranges (n : Int) : 0 ≤ dateM n ∧ dateM n ≤ 11 ∧ 0 ≤ dateMonth n ∧ dateMonth n ≤ 11 ∧ 1 ≤ dateDay n ∧ dateDay n ≤ 31 := by
 obtain ⟨h1, h2, h3, h4⟩ := dateY_spec n
 have hm : dateM n = (5 * dateDoy n + 2) / 153 := rfl
 unfold dateMonth dateDay
 refine ⟨by omega, by omega, ?_, ?_, by omega, by omega⟩ <;> split <;> omega
theorem number_date (n : Int) : number (dateYear n) (dateMonth n) (dateDay n) = n := by
 obtain ⟨h1, h2, h3, h4⟩ := dateY_spec n
 obtain ⟨m1, m2, -, -, -, -⟩ := date_ranges n
 have hd : dateDoy n = dateD n - (365 * dateY n + dateY n / 4 - dateY n / 100) := rfl
 have hc : n + 719468 = 146097 * dateCyc n + dateD n := by unfold dateCyc dateD; omega
 unfold number dateYear dateMonth dateDay
 by_cases hm : 10 ≤ dateM n
 ·simp only [hm, if_true]
  rw [if_pos (by omega)]
  have e1 : dateCyc n * 400 + dateY n + 1 - 1 = dateCyc n * 400 + dateY n := by omega
  have e2 : (dateCyc n * 400 + dateY n) / 400 = dateCyc n := by omega
  have e3 : (dateCyc n * 400 + dateY n) % 400 = dateY n := by omega
  have e4 : (dateM n - 10 + 10) % 12 = dateM n := by omega
  rw [e1, e2, e3, e4]
  omega
 ·simp only [hm, if_false]
  rw [if_neg (by omega)]
  have e2 : (dateCyc n * 400 + dateY n) / 400 = dateCyc n := by omega
  have e3 : (dateCyc n * 400 + dateY n) % 400 = dateY n := by omega
  have e4 : (dateM n + 2 + 10) % 12 = dateM n := by omega
  rw [e2, e3, e4]
  omega
theorem number_day (y m d : Int) : number y m 1 + d - 1 = number y m d := by unfold number; simp only; omega
theorem dateYear_range (n : Int) (h1 : -4371587 ≤ n) (h2 : n ≤ 2932896) : -9999 ≤ dateYear n ∧ dateYear n ≤ 9999 := by
 obtain ⟨y1, y2, y3, y4⟩ := dateY_spec n
 have hd : dateDoy n = dateD n - (365 * dateY n + dateY n / 4 - dateY n / 100) := rfl
 have hc : n + 719468 = 146097 * dateCyc n + dateD n := by unfold dateCyc dateD; omega
 have hd0 : 0 ≤ dateD n := by unfold dateD; omega
 have hd1 : dateD n < 146097 := by unfold dateD; omega
 have hm : dateM n = (5 * dateDoy n + 2) / 153 := rfl
 have c1 : -25 ≤ dateCyc n := by omega
 have c2 : dateCyc n ≤ 24 := by omega
 unfold dateYear
 refine ⟨?_, ?_⟩
 ·split
  ·rcases Int.lt_or_le (-25) (dateCyc n) with q | q
   ·omega
   ·have : dateCyc n = -25 := by omega
    rw [this] at hc ⊢
    omega
  ·rcases Int.lt_or_le (-25) (dateCyc n) with q | q
   ·omega
   ·have : dateCyc n = -25 := by omega
    rw [this] at hc ⊢
    omega
 ·split
  ·rename_i hm10
   rcases Int.lt_or_le (dateCyc n) 24 with q | q
   ·omega
   ·have : dateCyc n = 24 := by omega
    rw [this] at hc ⊢
    rcases Int.lt_or_le (dateY n) 399 with q | q
    ·omega
    ·have h9 : dateY n = 399 := by omega
     rw [h9] at hd
     omega
  ·omega
end Clk
namespace Clk
theorem divide_eq (n b : Int) (hb : 0 < b) : (if Int.tmod n b < 0 then (Int.tdiv n b - 1, Int.tmod n b + b) else (Int.tdiv n b, Int.tmod n b)) = (n / b, n % b) := by
 have h1 : Int.tdiv n b * b + Int.tmod n b = n := by rw [Int.mul_comm]; exact Int.mul_tdiv_add_tmod n b
 have h2 : -b < Int.tmod n b := by
  rcases Int.lt_or_le n 0 with q | q
  ·have := Int.tmod_lt_of_pos (-n) hb
   rw [Int.neg_tmod] at this
   omega
  ·have := Int.tmod_nonneg b q
   omega
 have h3 : Int.tmod n b < b := Int.tmod_lt_of_pos n hb
 have e2 := Int.emod_nonneg n (show b ≠ 0 by omega)
 have e3 := Int.emod_lt_of_pos n hb
 split
 ·have : Int.tdiv n b - 1 = n / b ∧ Int.tmod n b + b = n % b := by
   have := Int.ediv_emod_unique (a := n) (b := b) (r := Int.tmod n b + b) (q := Int.tdiv n b - 1) hb
   have h := this.2 ⟨by rw [Int.mul_sub, Int.mul_one, Int.mul_comm b]; omega, by omega, by omega⟩
   exact ⟨h.1.symm, h.2.symm⟩
  rw [this.1, this.2]
 ·have : Int.tdiv n b = n / b ∧ Int.tmod n b = n % b := by
   have := Int.ediv_emod_unique (a := n) (b := b) (r := Int.tmod n b) (q := Int.tdiv n b) hb
   have h := this.2 ⟨by rw [Int.mul_comm b]; omega, by omega, by omega⟩
   exact ⟨h.1.symm, h.2.symm⟩
  rw [this.1, this.2]
end Clk
namespace Clk
def ok2 (d : Nat) : Bool := Nat.ble 146097 d || Nat.blt d (ahead (yr d + 1)) || Nat.beq (yr d) 399
def chk2 : Nat → Nat → Bool
 | 0, s => ok2 s
 | k + 1, s => chk2 k s && chk2 k (s + 2 ^ k)
theorem chk2_all : chk2 18 0 = true := by decide +kernel
theorem chk2_spec : ∀ (k s : Nat), chk2 k s = true → ∀ d, s ≤ d → d < s + 2 ^ k → ok2 d = true
 | 0, s, h, d, h1, h2 => by
  have : d = s := by simp at h2; omega
  subst this; exact h
 | k + 1, s, h, d, h1, h2 => by
  simp only [chk2, Bool.and_eq_true] at h
  rw [Nat.pow_succ] at h2
  by_cases hd : d < s + 2 ^ k
  ·exact chk2_spec k s h.1 d h1 hd
  ·exact chk2_spec k (s + 2 ^ k) h.2 d (by omega) (by omega)
def A (y : Int) : Int := 365 * y + y / 4 - y / 100
theorem dateY_tight (n : Int) : dateD n < A (dateY n + 1) ∨ dateY n = 399 := by
 have hd0 : 0 ≤ dateD n := by unfold dateD; omega
 have hd1 : dateD n < 146097 := by unfold dateD; omega
 obtain ⟨d, hd⟩ := Int.eq_ofNat_of_zero_le hd0
 have hlt : d < 146097 := by omega
 have := chk2_spec 18 0 chk2_all d (Nat.zero_le _) (by omega)
 have hy : dateY n = (yr d : Int) := by unfold dateY yr; rw [hd]; omega
 unfold ok2 at this
 simp only [Bool.or_eq_true] at this
 rcases this with (h1 | h2) | h3
 ·have := Nat.le_of_ble_eq_true h1; omega
 ·left
  have h2 : d < ahead (yr d + 1) := Nat.le_of_ble_eq_true h2
  unfold ahead at h2
  unfold A
  rw [hd, hy]
  clear hy hd
  generalize yr d = Y at h2 ⊢
  have hz : ((Y : Int) + 1) = ((Y + 1 : Nat) : Int) := by simp
  rw [hz]
  clear hz
  generalize Y + 1 = z at h2 ⊢
  omega
 ·right
  have := Nat.eq_of_beq_eq_true h3
  omega
theorem A_mono (y z : Int) (_ : 0 ≤ y) (h : y + 1 ≤ z) : A (y + 1) ≤ A z := by unfold A; omega
theorem march (n c Y doy : Int) (h : n + 719468 = 146097 * c + A Y + doy) (y0 : 0 ≤ Y) (y1 : Y ≤ 399) (d0 : 0 ≤ doy) (d1 : A Y + doy < A (Y + 1) ∨ Y = 399) (d2 : A Y + doy < 146097) :
  dateCyc n = c ∧ dateY n = Y ∧ dateDoy n = doy := by
 have hA : 0 ≤ A Y := by unfold A; omega
 have hc : dateCyc n = c := by unfold dateCyc; omega
 have hd : dateD n = A Y + doy := by unfold dateD; omega
 obtain ⟨s1, s2, s3, s4⟩ := dateY_spec n
 have ht := dateY_tight n
 have hdoy : dateDoy n = dateD n - A (dateY n) := rfl
 have hy : dateY n = Y := by
  rcases Int.lt_trichotomy (dateY n) Y with q | q | q
  ·have := A_mono (dateY n) Y s1 (by omega)
   rcases ht with ht | ht <;> omega
  ·exact q
  ·have := A_mono Y (dateY n) y0 (by omega)
   rcases d1 with d1 | d1 <;> omega
 refine ⟨hc, hy, ?_⟩
 rw [hdoy, hd, hy]; omega
def cum (L m : Int) : Int := if m = 0 then 0 else if m = 1 then 31 else (if m = 2 then 59 else if m = 3 then 90 else if m = 4 then 120 else if m = 5 then 151 else if m = 6 then 181 else if m = 7 then 212 else if m = 8 then 243 else if m = 9 then 273 else if m = 10 then 304 else 334) + L
def len (L m : Int) : Int := if m = 1 then 28 + L else if m = 3 ∨ m = 5 ∨ m = 8 ∨ m = 10 then 30 else 31
theorem date_of (n c y m r L : Int) (hL : (L = 1 ∧ y % 4 = 0 ∧ (y % 100 ≠ 0 ∨ y % 400 = 0)) ∨ (L = 0 ∧ ¬ (y % 4 = 0 ∧ (y % 100 ≠ 0 ∨ y % 400 = 0)))) (y0 : 0 ≤ y) (y1 : y ≤ 399) (m0 : 0 ≤ m) (m1 : m ≤ 11) (r0 : 0 ≤ r) (r1 : r < len L m)
  (h : n + 719528 = 146097 * c + (365 * y + (y + 3) / 4 - (y + 99) / 100 + (y + 399) / 400) + cum L m + r) : dateYear n = 400 * c + y ∧ dateMonth n = m ∧ dateDay n = r + 1 := by
 have hJ : 365 * y + (y + 3) / 4 - (y + 99) / 100 + (y + 399) / 400 = A y + 1 - L := by unfold A; omega
 rw [hJ] at h
 have hA1 : A (y + 1) ≥ A y + 365 := by unfold A; omega
 have hA2 : A y ≤ 145731 := by unfold A; omega
 by_cases hm : 2 ≤ m
 ·have key : ∀ b : Int, cum L m = b + L → 59 ≤ b → b - 59 + r < 306 → dateCyc n = c ∧ dateY n = y ∧ dateDoy n = b - 59 + r := fun b hb h1 h2 =>
   march n c y (b - 59 + r) (by omega) y0 y1 (by omega) (.inl (by omega)) (by omega)
  have hcases : m = 2 ∨ m = 3 ∨ m = 4 ∨ m = 5 ∨ m = 6 ∨ m = 7 ∨ m = 8 ∨ m = 9 ∨ m = 10 ∨ m = 11 := by omega
  have fin : ∀ b : Int, cum L m = b + L → 59 ≤ b → b - 59 + r < 306 → (5 * (b - 59 + r) + 2) / 153 = m - 2 → b - 59 + r - (153 * (m - 2) + 2) / 5 = r → dateYear n = 400 * c + y ∧ dateMonth n = m ∧ dateDay n = r + 1 := by
   intro b hb h1 h2 h3 h4
   obtain ⟨k1, k2, k3⟩ := key b hb h1 h2
   have hM : dateM n = m - 2 := by unfold dateM; rw [k3]; exact h3
   unfold dateYear dateMonth dateDay
   rw [hM, k3, k1, k2, if_neg (by omega), if_neg (by omega)]
   omega
  rcases hcases with rfl | rfl | rfl | rfl | rfl | rfl | rfl | rfl | rfl | rfl
  ·have : r < 31 := r1
   exact fin 59 rfl (by omega) (by omega) (by omega) (by omega)
  ·have : r < 30 := r1
   exact fin 90 rfl (by omega) (by omega) (by omega) (by omega)
  ·have : r < 31 := r1
   exact fin 120 rfl (by omega) (by omega) (by omega) (by omega)
  ·have : r < 30 := r1
   exact fin 151 rfl (by omega) (by omega) (by omega) (by omega)
  ·have : r < 31 := r1
   exact fin 181 rfl (by omega) (by omega) (by omega) (by omega)
  ·have : r < 31 := r1
   exact fin 212 rfl (by omega) (by omega) (by omega) (by omega)
  ·have : r < 30 := r1
   exact fin 243 rfl (by omega) (by omega) (by omega) (by omega)
  ·have : r < 31 := r1
   exact fin 273 rfl (by omega) (by omega) (by omega) (by omega)
  ·have : r < 30 := r1
   exact fin 304 rfl (by omega) (by omega) (by omega) (by omega)
  ·have : r < 31 := r1
   exact fin 334 rfl (by omega) (by omega) (by omega) (by omega)
 ·have hrl : r ≤ 30 ∧ (m = 1 → r < 28 + L) ∧ cum L m = 31 * m := by
   have hcases : m = 0 ∨ m = 1 := by omega
   rcases hcases with rfl | rfl
   ·have : r < 31 := r1
    exact ⟨by omega, fun q => by omega, rfl⟩
   ·have : r < 28 + L := r1
    exact ⟨by omega, fun _ => this, rfl⟩
  obtain ⟨q1, q2, q3⟩ := hrl
  rw [q3] at h
  have fin : ∀ c' Y : Int, n + 719468 = 146097 * c' + A Y + (306 + 31 * m + r) → 0 ≤ Y → Y ≤ 399 → (A Y + (306 + 31 * m + r) < A (Y + 1) ∨ Y = 399) → A Y + (306 + 31 * m + r) < 146097 → c' * 400 + Y + 1 = 400 * c + y → dateYear n = 400 * c + y ∧ dateMonth n = m ∧ dateDay n = r + 1 := by
   intro c' Y e1 e2 e3 e4 e5 e6
   obtain ⟨k1, k2, k3⟩ := march n c' Y (306 + 31 * m + r) e1 e2 e3 (by omega) e4 e5
   have hcases : m = 0 ∨ m = 1 := by omega
   have hM : dateM n = m + 10 := by
    unfold dateM; rw [k3]
    rcases hcases with rfl | rfl <;> omega
   unfold dateYear dateMonth dateDay
   rw [hM, k3, k1, k2, if_pos (by omega), if_pos (by omega)]
   rcases hcases with rfl | rfl <;> omega
  by_cases hy : y = 0
  ·subst hy
   have hA0 : A 0 = 0 := by decide
   have hA399 : A 399 = 145731 := by decide
   rw [hA0] at h
   refine fin (c - 1) 399 (by rw [hA399]; omega) (by omega) (by omega) (.inr rfl) (by rw [hA399]; omega) (by omega)
  ·have hs : A y = A (y - 1) + 365 + L := by unfold A; omega
   refine fin c (y - 1) (by omega) (by omega) (by omega) (.inl ?_) (by omega) (by omega)
   rw [show y - 1 + 1 = y by omega]
   omega
end Clk
namespace Clk
end Clk
namespace Clk
theorem day_len (n : Int) (L : Int) (hL : (L = 1 ∧ dateYear n % 4 = 0 ∧ (dateYear n % 100 ≠ 0 ∨ dateYear n % 400 = 0)) ∨ (L = 0 ∧ ¬ (dateYear n % 4 = 0 ∧ (dateYear n % 100 ≠ 0 ∨ dateYear n % 400 = 0)))) : dateDay n ≤ len L (dateMonth n) := by
 have s := dateY_spec n
 have t := dateY_tight n
 have r := date_ranges n
 have eM : dateM n = (5 * dateDoy n + 2) / 153 := rfl
 have eD : dateDay n = dateDoy n - (153 * dateM n + 2) / 5 + 1 := rfl
 have ed : dateDoy n = dateD n - (365 * dateY n + dateY n / 4 - dateY n / 100) := rfl
 have eY : dateYear n = if 10 ≤ dateM n then dateCyc n * 400 + dateY n + 1 else dateCyc n * 400 + dateY n := rfl
 have em : dateMonth n = if 10 ≤ dateM n then dateM n - 10 else dateM n + 2 := rfl
 unfold A at t
 generalize dateDay n = day at *
 generalize dateMonth n = m at *
 generalize dateYear n = y at *
 generalize dateDoy n = doy at *
 generalize dateD n = D at *
 generalize dateY n = Y at *
 generalize dateCyc n = c at *
 have hm : dateM n = 0 ∨ dateM n = 1 ∨ dateM n = 2 ∨ dateM n = 3 ∨ dateM n = 4 ∨ dateM n = 5 ∨ dateM n = 6 ∨ dateM n = 7 ∨ dateM n = 8 ∨ dateM n = 9 ∨ dateM n = 10 ∨ dateM n = 11 := by omega
 generalize dateM n = mp at *
 unfold len
 rcases hm with rfl | rfl | rfl | rfl | rfl | rfl | rfl | rfl | rfl | rfl | rfl | rfl
 case inr.inr.inr.inr.inr.inr.inr.inr.inr.inr.inr =>
  have e1 : m = 1 := by simpa using em
  have e2 : y = c * 400 + Y + 1 := by simpa using eY
  subst e1
  rw [if_pos rfl]
  clear em eY
  by_cases h : doy ≤ 364
  ·omega
  ·have hd : doy = 365 := by omega
   have hl : L = 1 := by
    rcases hL with ⟨h1, _⟩ | ⟨_, h2⟩
    ·exact h1
    ·exfalso
     apply h2
     rcases t with t | t <;> omega
   omega
 all_goals
  simp at em
  subst em
  simp
  omega
end Clk
