import Derived.Test.YthopphfehgdocaaGreatDoorBk5
import Derived.Test.YthopphfehgdocaaGreatDoorBkD0
import Derived.Test.YthopphfehgdocaaGreatDoorBkD1
import Derived.Test.YthopphfehgdocaaGreatDoorBkD2
import Derived.Test.YthopphfehgdocaaGreatDoorBkD3
import Derived.Test.YthopphfehgdocaaGreatDoorBkD4
import Derived.Test.YthopphfehgdocaaGreatDoorBkD5
import Derived.Test.YthopphfehgdocaaGreatDoorBkD6
import Derived.Test.YthopphfehgdocaaGreatDoorBkC
namespace Go.Proofs.YthopphfehgdocaaGreatDoor
open Go Go.RowKit Go.Ev Go.Proofs Go.Shelf
set_option linter.unusedSimpArgs false
set_option linter.unusedVariables false
theorem dnl : ∀ W : Fin 7, dnF (W.val : Int) 0 = lw W.val 0 ∧ dnF (W.val : Int) 1 = lw W.val 1 ∧ dnF (W.val : Int) 2 = lw W.val 2 ∧ decide ((lw W.val 0).toNat < 128) = true ∧ decide ((lw W.val 1).toNat < 128) = true ∧ decide ((lw W.val 2).toNat < 128) = true := by decide +kernel
theorem mnl : ∀ M : Fin 12, mnF (M.val : Int) 0 = lm M.val 0 ∧ mnF (M.val : Int) 1 = lm M.val 1 ∧ mnF (M.val : Int) 2 = lm M.val 2 ∧ decide ((lm M.val 0).toNat < 128) = true ∧ decide ((lm M.val 1).toNat < 128) = true ∧ decide ((lm M.val 2).toNat < 128) = true := by decide +kernel
theorem tx2_0 {n Y M D h i s : Int} (q : Of n Y M D h i s) (hD : D < 10) : txF 2 n = ⟨#[dnF (wdF (n / 86400)) 0, dnF (wdF (n / 86400)) 1, dnF (wdF (n / 86400)) 2, 32, mnF M 0, mnF M 1, mnF M 2, 32, 32, dkF (fd (D % 10)), 32, dkF (fd (h / 10)), dkF (fd (h % 10)), 58, dkF (fd (i / 10)), dkF (fd (i % 10)), 58, dkF (fd (s / 10)), dkF (fd (s % 10)), 32, dkF (fd (Y / 1000)), dkF (fd (Y / 100 % 10)), dkF (fd (Y / 10 % 10)), dkF (fd (Y % 10))]⟩ := by
  obtain ⟨qY, qM, qD, qh, qi, qs, lo, hi, y0, y1, m0, m1, d0, d1, h0, h1, i0, i1, s0, s1, dOk, jOk, ns, fs⟩ := q
  show t2B _ _ _ _ _ _ _ = _
  rw [← qM, ← qD, ← qh, ← qi, ← qs, ← qY]
  unfold t2B
  rw [show spF D = 32 by unfold spF; rw [if_pos hD]]
  simp only [dk_fd (k := D % 10) (by omega) (by omega), dk_fd (k := h / 10) (by omega) (by omega), dk_fd (k := h % 10) (by omega) (by omega), dk_fd (k := i / 10) (by omega) (by omega), dk_fd (k := i % 10) (by omega) (by omega), dk_fd (k := s / 10) (by omega) (by omega), dk_fd (k := s % 10) (by omega) (by omega), dk_fd (k := Y / 1000) (by omega) (by omega), dk_fd (k := Y / 100 % 10) (by omega) (by omega), dk_fd (k := Y / 10 % 10) (by omega) (by omega), dk_fd (k := Y % 10) (by omega) (by omega)]

theorem ev20 {n Y D h i s : Int} {W m : Nat} (q : Of n Y (m : Int) D h i s) (hD : D < 10) (hW : W < 7) (hm : m < 12) (hw : wdF (n / 86400) = (W : Int)) (c : C20 W m) : ∃ H' nx', evFunc (withB laP lpP) 120 13 #[.string (txF 2 n), .string fb2] H0 12 = some (splV (Clk.fo n), H', nx') := by
  have tx := tx2_0 q hD
  obtain ⟨a1, a2, a3, a4, a5, a6⟩ := dnl ⟨W, hW⟩
  obtain ⟨b1, b2, b3, b4, b5, b6⟩ := mnl ⟨m, hm⟩
  simp only at a1 a2 a3 a4 a5 a6 b1 b2 b3 b4 b5 b6
  rw [hw, a1, a2, a3, b1, b2, b3] at tx
  have e := C20_ev c (pl20_all q hD _ _ _ _ _ _ a4 a5 a6 b4 b5 b6)
  have hx : px20 (Int.ofNat m) (fd (D % 10)) (fd (h / 10)) (fd (h % 10)) (fd (i / 10)) (fd (i % 10)) (fd (s / 10)) (fd (s % 10)) (fd (Y / 1000)) (fd (Y / 100 % 10)) (fd (Y / 10 % 10)) (fd (Y % 10)) = Clk.fo n := px20_eq q hD
  rw [hx] at e
  rw [tx]
  exact e

theorem ev2m0 {n Y D h i s : Int} {W m : Nat} (q : Of n Y (m : Int) D h i s) (hD : D < 10) (hW : W < 7) (hm : m < 12) (hw : wdF (n / 86400) = (W : Int)) (c : C2m0 W m) : ∃ H' nx', evFunc (withB laP lpP) 120 13 #[.string (txF 2 n), .string fb2] H0 12 = some (splV (Clk.fo n), H', nx') := by
  have tx := tx2_0 q hD
  obtain ⟨a1, a2, a3, a4, a5, a6⟩ := dnl ⟨W, hW⟩
  obtain ⟨b1, b2, b3, b4, b5, b6⟩ := mnl ⟨m, hm⟩
  simp only at a1 a2 a3 a4 a5 a6 b1 b2 b3 b4 b5 b6
  rw [hw, a1, a2, a3, b1, b2, b3] at tx
  have e := C2m0_ev c (pl2m0_all q hD _ _ _ _ _ _ a4 a5 a6 b4 b5 b6)
  have hx : px2m0 (Int.ofNat m) (fd (D % 10)) (fd (h / 10)) (fd (h % 10)) (fd (i / 10)) (fd (i % 10)) (fd (s / 10)) (fd (s % 10)) (fd (Y / 1000)) (fd (Y / 100 % 10)) (fd (Y / 10 % 10)) (fd (Y % 10)) = Clk.fo n := px2m0_eq q hD
  rw [hx] at e
  rw [tx]
  exact e

theorem tx2_1 {n Y M D h i s : Int} (q : Of n Y M D h i s) (hD : ¬ D < 10) : txF 2 n = ⟨#[dnF (wdF (n / 86400)) 0, dnF (wdF (n / 86400)) 1, dnF (wdF (n / 86400)) 2, 32, mnF M 0, mnF M 1, mnF M 2, 32, dkF (fd (D / 10)), dkF (fd (D % 10)), 32, dkF (fd (h / 10)), dkF (fd (h % 10)), 58, dkF (fd (i / 10)), dkF (fd (i % 10)), 58, dkF (fd (s / 10)), dkF (fd (s % 10)), 32, dkF (fd (Y / 1000)), dkF (fd (Y / 100 % 10)), dkF (fd (Y / 10 % 10)), dkF (fd (Y % 10))]⟩ := by
  obtain ⟨qY, qM, qD, qh, qi, qs, lo, hi, y0, y1, m0, m1, d0, d1, h0, h1, i0, i1, s0, s1, dOk, jOk, ns, fs⟩ := q
  show t2B _ _ _ _ _ _ _ = _
  rw [← qM, ← qD, ← qh, ← qi, ← qs, ← qY]
  unfold t2B
  rw [show spF D = dgF (D / 10) by unfold spF; rw [if_neg hD]]
  simp only [dk_fd (k := D / 10) (by omega) (by omega), dk_fd (k := D % 10) (by omega) (by omega), dk_fd (k := h / 10) (by omega) (by omega), dk_fd (k := h % 10) (by omega) (by omega), dk_fd (k := i / 10) (by omega) (by omega), dk_fd (k := i % 10) (by omega) (by omega), dk_fd (k := s / 10) (by omega) (by omega), dk_fd (k := s % 10) (by omega) (by omega), dk_fd (k := Y / 1000) (by omega) (by omega), dk_fd (k := Y / 100 % 10) (by omega) (by omega), dk_fd (k := Y / 10 % 10) (by omega) (by omega), dk_fd (k := Y % 10) (by omega) (by omega)]

theorem ev21 {n Y D h i s : Int} {W m : Nat} (q : Of n Y (m : Int) D h i s) (hD : ¬ D < 10) (hW : W < 7) (hm : m < 12) (hw : wdF (n / 86400) = (W : Int)) (c : C21 W m) : ∃ H' nx', evFunc (withB laP lpP) 120 13 #[.string (txF 2 n), .string fb2] H0 12 = some (splV (Clk.fo n), H', nx') := by
  have tx := tx2_1 q hD
  obtain ⟨a1, a2, a3, a4, a5, a6⟩ := dnl ⟨W, hW⟩
  obtain ⟨b1, b2, b3, b4, b5, b6⟩ := mnl ⟨m, hm⟩
  simp only at a1 a2 a3 a4 a5 a6 b1 b2 b3 b4 b5 b6
  rw [hw, a1, a2, a3, b1, b2, b3] at tx
  have e := C21_ev c (pl21_all q  _ _ _ _ _ _ a4 a5 a6 b4 b5 b6)
  have hx : px21 (Int.ofNat m) (fd (D / 10)) (fd (D % 10)) (fd (h / 10)) (fd (h % 10)) (fd (i / 10)) (fd (i % 10)) (fd (s / 10)) (fd (s % 10)) (fd (Y / 1000)) (fd (Y / 100 % 10)) (fd (Y / 10 % 10)) (fd (Y % 10)) = Clk.fo n := px21_eq q 
  rw [hx] at e
  rw [tx]
  exact e

theorem ev2m1 {n Y D h i s : Int} {W m : Nat} (q : Of n Y (m : Int) D h i s) (hD : ¬ D < 10) (hW : W < 7) (hm : m < 12) (hw : wdF (n / 86400) = (W : Int)) (c : C2m1 W m) : ∃ H' nx', evFunc (withB laP lpP) 120 13 #[.string (txF 2 n), .string fb2] H0 12 = some (splV (Clk.fo n), H', nx') := by
  have tx := tx2_1 q hD
  obtain ⟨a1, a2, a3, a4, a5, a6⟩ := dnl ⟨W, hW⟩
  obtain ⟨b1, b2, b3, b4, b5, b6⟩ := mnl ⟨m, hm⟩
  simp only at a1 a2 a3 a4 a5 a6 b1 b2 b3 b4 b5 b6
  rw [hw, a1, a2, a3, b1, b2, b3] at tx
  have e := C2m1_ev c (pl2m1_all q  _ _ _ _ _ _ a4 a5 a6 b4 b5 b6)
  have hx : px2m1 (Int.ofNat m) (fd (D / 10)) (fd (D % 10)) (fd (h / 10)) (fd (h % 10)) (fd (i / 10)) (fd (i % 10)) (fd (s / 10)) (fd (s % 10)) (fd (Y / 1000)) (fd (Y / 100 % 10)) (fd (Y / 10 % 10)) (fd (Y % 10)) = Clk.fo n := px2m1_eq q 
  rw [hx] at e
  rw [tx]
  exact e

theorem tx4_0 {n Y M D h i s T : Int} (q : Of n Y M D h i s) (hh : h < 12) (hT : T = (h + 11) % 12 + 1) : txF 4 n = ⟨#[dkF (fd (D / 10)), dkF (fd (D % 10)), 47, mnF M 0, mnF M 1, mnF M 2, 47, dkF (fd (Y / 1000)), dkF (fd (Y / 100 % 10)), dkF (fd (Y / 10 % 10)), dkF (fd (Y % 10)), 32, dkF (fd (T / 10)), dkF (fd (T % 10)), 58, dkF (fd (i / 10)), dkF (fd (i % 10)), 58, dkF (fd (s / 10)), dkF (fd (s % 10)), 65, 77, 32, 43, 48, 48, 48, 48]⟩ := by
  obtain ⟨qY, qM, qD, qh, qi, qs, lo, hi, y0, y1, m0, m1, d0, d1, h0, h1, i0, i1, s0, s1, dOk, jOk, ns, fs⟩ := q
  have qT : Int.tmod (h + 11) 12 + 1 = T := by rw [Int.tmod_eq_emod_of_nonneg (by omega), hT]
  show t4B _ _ _ _ _ _ = _
  rw [← qM, ← qD, ← qh, ← qi, ← qs, ← qY]
  unfold t4B
  rw [if_pos hh, qT]
  simp only [dk_fd (k := D / 10) (by omega) (by omega), dk_fd (k := D % 10) (by omega) (by omega), dk_fd (k := Y / 1000) (by omega) (by omega), dk_fd (k := Y / 100 % 10) (by omega) (by omega), dk_fd (k := Y / 10 % 10) (by omega) (by omega), dk_fd (k := Y % 10) (by omega) (by omega), dk_fd (k := T / 10) (by omega) (by omega), dk_fd (k := T % 10) (by omega) (by omega), dk_fd (k := i / 10) (by omega) (by omega), dk_fd (k := i % 10) (by omega) (by omega), dk_fd (k := s / 10) (by omega) (by omega), dk_fd (k := s % 10) (by omega) (by omega)]

theorem ev40 {n Y D h i s : Int} {m : Nat} (q : Of n Y (m : Int) D h i s) (hh : h < 12) (hm : m < 12) (c : C40 0 m) : ∃ H' nx', evFunc (withB laP lpP) 120 13 #[.string (txF 4 n), .string fb4] H0 12 = some (splV (Clk.fo n), H', nx') := by
  obtain ⟨T, hT⟩ : ∃ T, T = (h + 11) % 12 + 1 := ⟨_, rfl⟩
  have tx := tx4_0 q hh hT
  obtain ⟨b1, b2, b3, b4, b5, b6⟩ := mnl ⟨m, hm⟩
  simp only at b1 b2 b3 b4 b5 b6
  rw [b1, b2, b3] at tx
  have e := C40_ev c (pl40_all q hh T hT 0 0 0 _ _ _ (by decide) (by decide) (by decide) b4 b5 b6)
  have hx : px40 (Int.ofNat m) (fd (D / 10)) (fd (D % 10)) (fd (Y / 1000)) (fd (Y / 100 % 10)) (fd (Y / 10 % 10)) (fd (Y % 10)) (fd (T / 10)) (fd (T % 10)) (fd (i / 10)) (fd (i % 10)) (fd (s / 10)) (fd (s % 10)) = Clk.fo n := px40_eq q hh T hT
  rw [hx] at e
  rw [tx]
  exact e

theorem ev4m0 {n Y D h i s : Int} {m : Nat} (q : Of n Y (m : Int) D h i s) (hh : h < 12) (hm : m < 12) (c : C4m0 0 m) : ∃ H' nx', evFunc (withB laP lpP) 120 13 #[.string (txF 4 n), .string fb4] H0 12 = some (splV (Clk.fo n), H', nx') := by
  obtain ⟨T, hT⟩ : ∃ T, T = (h + 11) % 12 + 1 := ⟨_, rfl⟩
  have tx := tx4_0 q hh hT
  obtain ⟨b1, b2, b3, b4, b5, b6⟩ := mnl ⟨m, hm⟩
  simp only at b1 b2 b3 b4 b5 b6
  rw [b1, b2, b3] at tx
  have e := C4m0_ev c (pl4m0_all q hh T hT 0 0 0 _ _ _ (by decide) (by decide) (by decide) b4 b5 b6)
  have hx : px4m0 (Int.ofNat m) (fd (D / 10)) (fd (D % 10)) (fd (Y / 1000)) (fd (Y / 100 % 10)) (fd (Y / 10 % 10)) (fd (Y % 10)) (fd (T / 10)) (fd (T % 10)) (fd (i / 10)) (fd (i % 10)) (fd (s / 10)) (fd (s % 10)) = Clk.fo n := px4m0_eq q hh T hT
  rw [hx] at e
  rw [tx]
  exact e

theorem tx4_1 {n Y M D h i s T : Int} (q : Of n Y M D h i s) (hh : ¬ h < 12) (hT : T = (h + 11) % 12 + 1) : txF 4 n = ⟨#[dkF (fd (D / 10)), dkF (fd (D % 10)), 47, mnF M 0, mnF M 1, mnF M 2, 47, dkF (fd (Y / 1000)), dkF (fd (Y / 100 % 10)), dkF (fd (Y / 10 % 10)), dkF (fd (Y % 10)), 32, dkF (fd (T / 10)), dkF (fd (T % 10)), 58, dkF (fd (i / 10)), dkF (fd (i % 10)), 58, dkF (fd (s / 10)), dkF (fd (s % 10)), 80, 77, 32, 43, 48, 48, 48, 48]⟩ := by
  obtain ⟨qY, qM, qD, qh, qi, qs, lo, hi, y0, y1, m0, m1, d0, d1, h0, h1, i0, i1, s0, s1, dOk, jOk, ns, fs⟩ := q
  have qT : Int.tmod (h + 11) 12 + 1 = T := by rw [Int.tmod_eq_emod_of_nonneg (by omega), hT]
  show t4B _ _ _ _ _ _ = _
  rw [← qM, ← qD, ← qh, ← qi, ← qs, ← qY]
  unfold t4B
  rw [if_neg hh, qT]
  simp only [dk_fd (k := D / 10) (by omega) (by omega), dk_fd (k := D % 10) (by omega) (by omega), dk_fd (k := Y / 1000) (by omega) (by omega), dk_fd (k := Y / 100 % 10) (by omega) (by omega), dk_fd (k := Y / 10 % 10) (by omega) (by omega), dk_fd (k := Y % 10) (by omega) (by omega), dk_fd (k := T / 10) (by omega) (by omega), dk_fd (k := T % 10) (by omega) (by omega), dk_fd (k := i / 10) (by omega) (by omega), dk_fd (k := i % 10) (by omega) (by omega), dk_fd (k := s / 10) (by omega) (by omega), dk_fd (k := s % 10) (by omega) (by omega)]

theorem ev41 {n Y D h i s : Int} {m : Nat} (q : Of n Y (m : Int) D h i s) (hh : ¬ h < 12) (hm : m < 12) (c : C41 0 m) : ∃ H' nx', evFunc (withB laP lpP) 120 13 #[.string (txF 4 n), .string fb4] H0 12 = some (splV (Clk.fo n), H', nx') := by
  obtain ⟨T, hT⟩ : ∃ T, T = (h + 11) % 12 + 1 := ⟨_, rfl⟩
  have tx := tx4_1 q hh hT
  obtain ⟨b1, b2, b3, b4, b5, b6⟩ := mnl ⟨m, hm⟩
  simp only at b1 b2 b3 b4 b5 b6
  rw [b1, b2, b3] at tx
  have e := C41_ev c (pl41_all q (by omega) T hT 0 0 0 _ _ _ (by decide) (by decide) (by decide) b4 b5 b6)
  have hx : px41 (Int.ofNat m) (fd (D / 10)) (fd (D % 10)) (fd (Y / 1000)) (fd (Y / 100 % 10)) (fd (Y / 10 % 10)) (fd (Y % 10)) (fd (T / 10)) (fd (T % 10)) (fd (i / 10)) (fd (i % 10)) (fd (s / 10)) (fd (s % 10)) = Clk.fo n := px41_eq q (by omega) T hT
  rw [hx] at e
  rw [tx]
  exact e

theorem ev4m1 {n Y D h i s : Int} {m : Nat} (q : Of n Y (m : Int) D h i s) (hh : ¬ h < 12) (hm : m < 12) (c : C4m1 0 m) : ∃ H' nx', evFunc (withB laP lpP) 120 13 #[.string (txF 4 n), .string fb4] H0 12 = some (splV (Clk.fo n), H', nx') := by
  obtain ⟨T, hT⟩ : ∃ T, T = (h + 11) % 12 + 1 := ⟨_, rfl⟩
  have tx := tx4_1 q hh hT
  obtain ⟨b1, b2, b3, b4, b5, b6⟩ := mnl ⟨m, hm⟩
  simp only at b1 b2 b3 b4 b5 b6
  rw [b1, b2, b3] at tx
  have e := C4m1_ev c (pl4m1_all q (by omega) T hT 0 0 0 _ _ _ (by decide) (by decide) (by decide) b4 b5 b6)
  have hx : px4m1 (Int.ofNat m) (fd (D / 10)) (fd (D % 10)) (fd (Y / 1000)) (fd (Y / 100 % 10)) (fd (Y / 10 % 10)) (fd (Y % 10)) (fd (T / 10)) (fd (T % 10)) (fd (i / 10)) (fd (i % 10)) (fd (s / 10)) (fd (s % 10)) = Clk.fo n := px4m1_eq q (by omega) T hT
  rw [hx] at e
  rw [tx]
  exact e

end Go.Proofs.YthopphfehgdocaaGreatDoor
namespace Go.Proofs.YthopphfehgdocaaGreatDoor
open Go Go.RowKit Go.Ev Go.Proofs Go.Shelf
set_option linter.unusedSimpArgs false
set_option linter.unusedVariables false
theorem parse_ev2 {n : Int} (hn : yearN n) : ∃ H' nx', evFunc (withB laP lpP) 120 13 #[.string (txF 2 n), .string fb2] H0 12 = some (splV (Clk.fo n), H', nx') := by
  obtain ⟨Y, M, D, h, i, s, q⟩ := of_year hn
  have wd : 0 ≤ wdF (n / 86400) ∧ wdF (n / 86400) ≤ 6 := by
    unfold wdF
    omega
  have hm : M = 0 ∨ M = 1 ∨ M = 2 ∨ M = 3 ∨ M = 4 ∨ M = 5 ∨ M = 6 ∨ M = 7 ∨ M = 8 ∨ M = 9 ∨ M = 10 ∨ M = 11 := by
    have := q.m0
    have := q.m1
    omega
  have hw : wdF (n / 86400) = 0 ∨ wdF (n / 86400) = 1 ∨ wdF (n / 86400) = 2 ∨ wdF (n / 86400) = 3 ∨ wdF (n / 86400) = 4 ∨ wdF (n / 86400) = 5 ∨ wdF (n / 86400) = 6 := by omega
  by_cases hD : D < 10
  · rcases hm with rfl | rfl | rfl | rfl | rfl | rfl | rfl | rfl | rfl | rfl | rfl | rfl <;> rcases hw with hw | hw | hw | hw | hw | hw | hw
    · exact ev20 (m := 0) (W := 0) q hD (by decide) (by decide) hw c2_0_0_0
    · exact ev20 (m := 0) (W := 1) q hD (by decide) (by decide) hw c2_1_0_0
    · exact ev20 (m := 0) (W := 2) q hD (by decide) (by decide) hw c2_2_0_0
    · exact ev20 (m := 0) (W := 3) q hD (by decide) (by decide) hw c2_3_0_0
    · exact ev20 (m := 0) (W := 4) q hD (by decide) (by decide) hw c2_4_0_0
    · exact ev20 (m := 0) (W := 5) q hD (by decide) (by decide) hw c2_5_0_0
    · exact ev20 (m := 0) (W := 6) q hD (by decide) (by decide) hw c2_6_0_0
    · exact ev20 (m := 1) (W := 0) q hD (by decide) (by decide) hw c2_0_1_0
    · exact ev20 (m := 1) (W := 1) q hD (by decide) (by decide) hw c2_1_1_0
    · exact ev20 (m := 1) (W := 2) q hD (by decide) (by decide) hw c2_2_1_0
    · exact ev20 (m := 1) (W := 3) q hD (by decide) (by decide) hw c2_3_1_0
    · exact ev20 (m := 1) (W := 4) q hD (by decide) (by decide) hw c2_4_1_0
    · exact ev20 (m := 1) (W := 5) q hD (by decide) (by decide) hw c2_5_1_0
    · exact ev20 (m := 1) (W := 6) q hD (by decide) (by decide) hw c2_6_1_0
    · exact ev20 (m := 2) (W := 0) q hD (by decide) (by decide) hw c2_0_2_0
    · exact ev20 (m := 2) (W := 1) q hD (by decide) (by decide) hw c2_1_2_0
    · exact ev20 (m := 2) (W := 2) q hD (by decide) (by decide) hw c2_2_2_0
    · exact ev20 (m := 2) (W := 3) q hD (by decide) (by decide) hw c2_3_2_0
    · exact ev20 (m := 2) (W := 4) q hD (by decide) (by decide) hw c2_4_2_0
    · exact ev20 (m := 2) (W := 5) q hD (by decide) (by decide) hw c2_5_2_0
    · exact ev20 (m := 2) (W := 6) q hD (by decide) (by decide) hw c2_6_2_0
    · exact ev20 (m := 3) (W := 0) q hD (by decide) (by decide) hw c2_0_3_0
    · exact ev20 (m := 3) (W := 1) q hD (by decide) (by decide) hw c2_1_3_0
    · exact ev20 (m := 3) (W := 2) q hD (by decide) (by decide) hw c2_2_3_0
    · exact ev20 (m := 3) (W := 3) q hD (by decide) (by decide) hw c2_3_3_0
    · exact ev20 (m := 3) (W := 4) q hD (by decide) (by decide) hw c2_4_3_0
    · exact ev20 (m := 3) (W := 5) q hD (by decide) (by decide) hw c2_5_3_0
    · exact ev20 (m := 3) (W := 6) q hD (by decide) (by decide) hw c2_6_3_0
    · exact ev2m0 (m := 4) (W := 0) q hD (by decide) (by decide) hw c2_0_4_0
    · exact ev2m0 (m := 4) (W := 1) q hD (by decide) (by decide) hw c2_1_4_0
    · exact ev2m0 (m := 4) (W := 2) q hD (by decide) (by decide) hw c2_2_4_0
    · exact ev2m0 (m := 4) (W := 3) q hD (by decide) (by decide) hw c2_3_4_0
    · exact ev2m0 (m := 4) (W := 4) q hD (by decide) (by decide) hw c2_4_4_0
    · exact ev2m0 (m := 4) (W := 5) q hD (by decide) (by decide) hw c2_5_4_0
    · exact ev2m0 (m := 4) (W := 6) q hD (by decide) (by decide) hw c2_6_4_0
    · exact ev20 (m := 5) (W := 0) q hD (by decide) (by decide) hw c2_0_5_0
    · exact ev20 (m := 5) (W := 1) q hD (by decide) (by decide) hw c2_1_5_0
    · exact ev20 (m := 5) (W := 2) q hD (by decide) (by decide) hw c2_2_5_0
    · exact ev20 (m := 5) (W := 3) q hD (by decide) (by decide) hw c2_3_5_0
    · exact ev20 (m := 5) (W := 4) q hD (by decide) (by decide) hw c2_4_5_0
    · exact ev20 (m := 5) (W := 5) q hD (by decide) (by decide) hw c2_5_5_0
    · exact ev20 (m := 5) (W := 6) q hD (by decide) (by decide) hw c2_6_5_0
    · exact ev20 (m := 6) (W := 0) q hD (by decide) (by decide) hw c2_0_6_0
    · exact ev20 (m := 6) (W := 1) q hD (by decide) (by decide) hw c2_1_6_0
    · exact ev20 (m := 6) (W := 2) q hD (by decide) (by decide) hw c2_2_6_0
    · exact ev20 (m := 6) (W := 3) q hD (by decide) (by decide) hw c2_3_6_0
    · exact ev20 (m := 6) (W := 4) q hD (by decide) (by decide) hw c2_4_6_0
    · exact ev20 (m := 6) (W := 5) q hD (by decide) (by decide) hw c2_5_6_0
    · exact ev20 (m := 6) (W := 6) q hD (by decide) (by decide) hw c2_6_6_0
    · exact ev20 (m := 7) (W := 0) q hD (by decide) (by decide) hw c2_0_7_0
    · exact ev20 (m := 7) (W := 1) q hD (by decide) (by decide) hw c2_1_7_0
    · exact ev20 (m := 7) (W := 2) q hD (by decide) (by decide) hw c2_2_7_0
    · exact ev20 (m := 7) (W := 3) q hD (by decide) (by decide) hw c2_3_7_0
    · exact ev20 (m := 7) (W := 4) q hD (by decide) (by decide) hw c2_4_7_0
    · exact ev20 (m := 7) (W := 5) q hD (by decide) (by decide) hw c2_5_7_0
    · exact ev20 (m := 7) (W := 6) q hD (by decide) (by decide) hw c2_6_7_0
    · exact ev20 (m := 8) (W := 0) q hD (by decide) (by decide) hw c2_0_8_0
    · exact ev20 (m := 8) (W := 1) q hD (by decide) (by decide) hw c2_1_8_0
    · exact ev20 (m := 8) (W := 2) q hD (by decide) (by decide) hw c2_2_8_0
    · exact ev20 (m := 8) (W := 3) q hD (by decide) (by decide) hw c2_3_8_0
    · exact ev20 (m := 8) (W := 4) q hD (by decide) (by decide) hw c2_4_8_0
    · exact ev20 (m := 8) (W := 5) q hD (by decide) (by decide) hw c2_5_8_0
    · exact ev20 (m := 8) (W := 6) q hD (by decide) (by decide) hw c2_6_8_0
    · exact ev20 (m := 9) (W := 0) q hD (by decide) (by decide) hw c2_0_9_0
    · exact ev20 (m := 9) (W := 1) q hD (by decide) (by decide) hw c2_1_9_0
    · exact ev20 (m := 9) (W := 2) q hD (by decide) (by decide) hw c2_2_9_0
    · exact ev20 (m := 9) (W := 3) q hD (by decide) (by decide) hw c2_3_9_0
    · exact ev20 (m := 9) (W := 4) q hD (by decide) (by decide) hw c2_4_9_0
    · exact ev20 (m := 9) (W := 5) q hD (by decide) (by decide) hw c2_5_9_0
    · exact ev20 (m := 9) (W := 6) q hD (by decide) (by decide) hw c2_6_9_0
    · exact ev20 (m := 10) (W := 0) q hD (by decide) (by decide) hw c2_0_10_0
    · exact ev20 (m := 10) (W := 1) q hD (by decide) (by decide) hw c2_1_10_0
    · exact ev20 (m := 10) (W := 2) q hD (by decide) (by decide) hw c2_2_10_0
    · exact ev20 (m := 10) (W := 3) q hD (by decide) (by decide) hw c2_3_10_0
    · exact ev20 (m := 10) (W := 4) q hD (by decide) (by decide) hw c2_4_10_0
    · exact ev20 (m := 10) (W := 5) q hD (by decide) (by decide) hw c2_5_10_0
    · exact ev20 (m := 10) (W := 6) q hD (by decide) (by decide) hw c2_6_10_0
    · exact ev20 (m := 11) (W := 0) q hD (by decide) (by decide) hw c2_0_11_0
    · exact ev20 (m := 11) (W := 1) q hD (by decide) (by decide) hw c2_1_11_0
    · exact ev20 (m := 11) (W := 2) q hD (by decide) (by decide) hw c2_2_11_0
    · exact ev20 (m := 11) (W := 3) q hD (by decide) (by decide) hw c2_3_11_0
    · exact ev20 (m := 11) (W := 4) q hD (by decide) (by decide) hw c2_4_11_0
    · exact ev20 (m := 11) (W := 5) q hD (by decide) (by decide) hw c2_5_11_0
    · exact ev20 (m := 11) (W := 6) q hD (by decide) (by decide) hw c2_6_11_0
  · rcases hm with rfl | rfl | rfl | rfl | rfl | rfl | rfl | rfl | rfl | rfl | rfl | rfl <;> rcases hw with hw | hw | hw | hw | hw | hw | hw
    · exact ev21 (m := 0) (W := 0) q hD (by decide) (by decide) hw c2_0_0_1
    · exact ev21 (m := 0) (W := 1) q hD (by decide) (by decide) hw c2_1_0_1
    · exact ev21 (m := 0) (W := 2) q hD (by decide) (by decide) hw c2_2_0_1
    · exact ev21 (m := 0) (W := 3) q hD (by decide) (by decide) hw c2_3_0_1
    · exact ev21 (m := 0) (W := 4) q hD (by decide) (by decide) hw c2_4_0_1
    · exact ev21 (m := 0) (W := 5) q hD (by decide) (by decide) hw c2_5_0_1
    · exact ev21 (m := 0) (W := 6) q hD (by decide) (by decide) hw c2_6_0_1
    · exact ev21 (m := 1) (W := 0) q hD (by decide) (by decide) hw c2_0_1_1
    · exact ev21 (m := 1) (W := 1) q hD (by decide) (by decide) hw c2_1_1_1
    · exact ev21 (m := 1) (W := 2) q hD (by decide) (by decide) hw c2_2_1_1
    · exact ev21 (m := 1) (W := 3) q hD (by decide) (by decide) hw c2_3_1_1
    · exact ev21 (m := 1) (W := 4) q hD (by decide) (by decide) hw c2_4_1_1
    · exact ev21 (m := 1) (W := 5) q hD (by decide) (by decide) hw c2_5_1_1
    · exact ev21 (m := 1) (W := 6) q hD (by decide) (by decide) hw c2_6_1_1
    · exact ev21 (m := 2) (W := 0) q hD (by decide) (by decide) hw c2_0_2_1
    · exact ev21 (m := 2) (W := 1) q hD (by decide) (by decide) hw c2_1_2_1
    · exact ev21 (m := 2) (W := 2) q hD (by decide) (by decide) hw c2_2_2_1
    · exact ev21 (m := 2) (W := 3) q hD (by decide) (by decide) hw c2_3_2_1
    · exact ev21 (m := 2) (W := 4) q hD (by decide) (by decide) hw c2_4_2_1
    · exact ev21 (m := 2) (W := 5) q hD (by decide) (by decide) hw c2_5_2_1
    · exact ev21 (m := 2) (W := 6) q hD (by decide) (by decide) hw c2_6_2_1
    · exact ev21 (m := 3) (W := 0) q hD (by decide) (by decide) hw c2_0_3_1
    · exact ev21 (m := 3) (W := 1) q hD (by decide) (by decide) hw c2_1_3_1
    · exact ev21 (m := 3) (W := 2) q hD (by decide) (by decide) hw c2_2_3_1
    · exact ev21 (m := 3) (W := 3) q hD (by decide) (by decide) hw c2_3_3_1
    · exact ev21 (m := 3) (W := 4) q hD (by decide) (by decide) hw c2_4_3_1
    · exact ev21 (m := 3) (W := 5) q hD (by decide) (by decide) hw c2_5_3_1
    · exact ev21 (m := 3) (W := 6) q hD (by decide) (by decide) hw c2_6_3_1
    · exact ev2m1 (m := 4) (W := 0) q hD (by decide) (by decide) hw c2_0_4_1
    · exact ev2m1 (m := 4) (W := 1) q hD (by decide) (by decide) hw c2_1_4_1
    · exact ev2m1 (m := 4) (W := 2) q hD (by decide) (by decide) hw c2_2_4_1
    · exact ev2m1 (m := 4) (W := 3) q hD (by decide) (by decide) hw c2_3_4_1
    · exact ev2m1 (m := 4) (W := 4) q hD (by decide) (by decide) hw c2_4_4_1
    · exact ev2m1 (m := 4) (W := 5) q hD (by decide) (by decide) hw c2_5_4_1
    · exact ev2m1 (m := 4) (W := 6) q hD (by decide) (by decide) hw c2_6_4_1
    · exact ev21 (m := 5) (W := 0) q hD (by decide) (by decide) hw c2_0_5_1
    · exact ev21 (m := 5) (W := 1) q hD (by decide) (by decide) hw c2_1_5_1
    · exact ev21 (m := 5) (W := 2) q hD (by decide) (by decide) hw c2_2_5_1
    · exact ev21 (m := 5) (W := 3) q hD (by decide) (by decide) hw c2_3_5_1
    · exact ev21 (m := 5) (W := 4) q hD (by decide) (by decide) hw c2_4_5_1
    · exact ev21 (m := 5) (W := 5) q hD (by decide) (by decide) hw c2_5_5_1
    · exact ev21 (m := 5) (W := 6) q hD (by decide) (by decide) hw c2_6_5_1
    · exact ev21 (m := 6) (W := 0) q hD (by decide) (by decide) hw c2_0_6_1
    · exact ev21 (m := 6) (W := 1) q hD (by decide) (by decide) hw c2_1_6_1
    · exact ev21 (m := 6) (W := 2) q hD (by decide) (by decide) hw c2_2_6_1
    · exact ev21 (m := 6) (W := 3) q hD (by decide) (by decide) hw c2_3_6_1
    · exact ev21 (m := 6) (W := 4) q hD (by decide) (by decide) hw c2_4_6_1
    · exact ev21 (m := 6) (W := 5) q hD (by decide) (by decide) hw c2_5_6_1
    · exact ev21 (m := 6) (W := 6) q hD (by decide) (by decide) hw c2_6_6_1
    · exact ev21 (m := 7) (W := 0) q hD (by decide) (by decide) hw c2_0_7_1
    · exact ev21 (m := 7) (W := 1) q hD (by decide) (by decide) hw c2_1_7_1
    · exact ev21 (m := 7) (W := 2) q hD (by decide) (by decide) hw c2_2_7_1
    · exact ev21 (m := 7) (W := 3) q hD (by decide) (by decide) hw c2_3_7_1
    · exact ev21 (m := 7) (W := 4) q hD (by decide) (by decide) hw c2_4_7_1
    · exact ev21 (m := 7) (W := 5) q hD (by decide) (by decide) hw c2_5_7_1
    · exact ev21 (m := 7) (W := 6) q hD (by decide) (by decide) hw c2_6_7_1
    · exact ev21 (m := 8) (W := 0) q hD (by decide) (by decide) hw c2_0_8_1
    · exact ev21 (m := 8) (W := 1) q hD (by decide) (by decide) hw c2_1_8_1
    · exact ev21 (m := 8) (W := 2) q hD (by decide) (by decide) hw c2_2_8_1
    · exact ev21 (m := 8) (W := 3) q hD (by decide) (by decide) hw c2_3_8_1
    · exact ev21 (m := 8) (W := 4) q hD (by decide) (by decide) hw c2_4_8_1
    · exact ev21 (m := 8) (W := 5) q hD (by decide) (by decide) hw c2_5_8_1
    · exact ev21 (m := 8) (W := 6) q hD (by decide) (by decide) hw c2_6_8_1
    · exact ev21 (m := 9) (W := 0) q hD (by decide) (by decide) hw c2_0_9_1
    · exact ev21 (m := 9) (W := 1) q hD (by decide) (by decide) hw c2_1_9_1
    · exact ev21 (m := 9) (W := 2) q hD (by decide) (by decide) hw c2_2_9_1
    · exact ev21 (m := 9) (W := 3) q hD (by decide) (by decide) hw c2_3_9_1
    · exact ev21 (m := 9) (W := 4) q hD (by decide) (by decide) hw c2_4_9_1
    · exact ev21 (m := 9) (W := 5) q hD (by decide) (by decide) hw c2_5_9_1
    · exact ev21 (m := 9) (W := 6) q hD (by decide) (by decide) hw c2_6_9_1
    · exact ev21 (m := 10) (W := 0) q hD (by decide) (by decide) hw c2_0_10_1
    · exact ev21 (m := 10) (W := 1) q hD (by decide) (by decide) hw c2_1_10_1
    · exact ev21 (m := 10) (W := 2) q hD (by decide) (by decide) hw c2_2_10_1
    · exact ev21 (m := 10) (W := 3) q hD (by decide) (by decide) hw c2_3_10_1
    · exact ev21 (m := 10) (W := 4) q hD (by decide) (by decide) hw c2_4_10_1
    · exact ev21 (m := 10) (W := 5) q hD (by decide) (by decide) hw c2_5_10_1
    · exact ev21 (m := 10) (W := 6) q hD (by decide) (by decide) hw c2_6_10_1
    · exact ev21 (m := 11) (W := 0) q hD (by decide) (by decide) hw c2_0_11_1
    · exact ev21 (m := 11) (W := 1) q hD (by decide) (by decide) hw c2_1_11_1
    · exact ev21 (m := 11) (W := 2) q hD (by decide) (by decide) hw c2_2_11_1
    · exact ev21 (m := 11) (W := 3) q hD (by decide) (by decide) hw c2_3_11_1
    · exact ev21 (m := 11) (W := 4) q hD (by decide) (by decide) hw c2_4_11_1
    · exact ev21 (m := 11) (W := 5) q hD (by decide) (by decide) hw c2_5_11_1
    · exact ev21 (m := 11) (W := 6) q hD (by decide) (by decide) hw c2_6_11_1
theorem parse_ev4 {n : Int} (hn : yearN n) : ∃ H' nx', evFunc (withB laP lpP) 120 13 #[.string (txF 4 n), .string fb4] H0 12 = some (splV (Clk.fo n), H', nx') := by
  obtain ⟨Y, M, D, h, i, s, q⟩ := of_year hn
  have hm : M = 0 ∨ M = 1 ∨ M = 2 ∨ M = 3 ∨ M = 4 ∨ M = 5 ∨ M = 6 ∨ M = 7 ∨ M = 8 ∨ M = 9 ∨ M = 10 ∨ M = 11 := by
    have := q.m0
    have := q.m1
    omega
  by_cases hh : h < 12
  · rcases hm with rfl | rfl | rfl | rfl | rfl | rfl | rfl | rfl | rfl | rfl | rfl | rfl
    · exact ev40 (m := 0) q hh (by decide) c4_0_0
    · exact ev40 (m := 1) q hh (by decide) c4_1_0
    · exact ev40 (m := 2) q hh (by decide) c4_2_0
    · exact ev40 (m := 3) q hh (by decide) c4_3_0
    · exact ev4m0 (m := 4) q hh (by decide) c4_4_0
    · exact ev40 (m := 5) q hh (by decide) c4_5_0
    · exact ev40 (m := 6) q hh (by decide) c4_6_0
    · exact ev40 (m := 7) q hh (by decide) c4_7_0
    · exact ev40 (m := 8) q hh (by decide) c4_8_0
    · exact ev40 (m := 9) q hh (by decide) c4_9_0
    · exact ev40 (m := 10) q hh (by decide) c4_10_0
    · exact ev40 (m := 11) q hh (by decide) c4_11_0
  · rcases hm with rfl | rfl | rfl | rfl | rfl | rfl | rfl | rfl | rfl | rfl | rfl | rfl
    · exact ev41 (m := 0) q hh (by decide) c4_0_1
    · exact ev41 (m := 1) q hh (by decide) c4_1_1
    · exact ev41 (m := 2) q hh (by decide) c4_2_1
    · exact ev41 (m := 3) q hh (by decide) c4_3_1
    · exact ev4m1 (m := 4) q hh (by decide) c4_4_1
    · exact ev41 (m := 5) q hh (by decide) c4_5_1
    · exact ev41 (m := 6) q hh (by decide) c4_6_1
    · exact ev41 (m := 7) q hh (by decide) c4_7_1
    · exact ev41 (m := 8) q hh (by decide) c4_8_1
    · exact ev41 (m := 9) q hh (by decide) c4_9_1
    · exact ev41 (m := 10) q hh (by decide) c4_10_1
    · exact ev41 (m := 11) q hh (by decide) c4_11_1

end Go.Proofs.YthopphfehgdocaaGreatDoor
