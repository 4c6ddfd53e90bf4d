import Derived.Test.YthopphfehgdocaaGreatDoorBk3
import Derived.Test.YthopphfehgdocaaGreatDoorBf6
import Derived.Test.YthopphfehgdocaaGreatDoorBkA
namespace Go.Proofs.YthopphfehgdocaaGreatDoor
open Go Go.RowKit Go.Ev Go.Proofs Go.Shelf
set_option linter.unusedSimpArgs false
set_option linter.unusedVariables false
/-! ### Digits of numbers, read again -/
def fd (k : Int) : Fin 10 := ⟨k.toNat % 10, by omega⟩
theorem dk_fd {k : Int} (h0 : 0 ≤ k) (h1 : k ≤ 9) : dkF (fd k) = dgF k := by
  apply UInt8.toNat_inj.1
  rw [dk_nat, dg_nat h0 h1]
  show k.toNat % 10 + 48 = _
  omega
theorem nxt_fd {x k : Int} (x0 : 0 ≤ x) (x1 : x ≤ 1000000000000) (h0 : 0 ≤ k) (h1 : k ≤ 9) : nxt x (fd k) = 10 * x + k := by
  rw [nxt_eq _ x0 x1]
  have : ((fd k).val : Int) = k := by
    show ((k.toNat % 10 : Nat) : Int) = k
    omega
  rw [this]
theorem one_fd {e : Int} (h0 : 0 ≤ e) (h1 : e ≤ 9) : nxt 0 (fd (e % 10)) = e := by
  rw [nxt_fd (by omega) (by omega) (by omega) (by omega)]; omega
theorem two_fd {e : Int} (h0 : 0 ≤ e) (h1 : e ≤ 99) : nxt (nxt 0 (fd (e / 10))) (fd (e % 10)) = e := by
  rw [nxt_fd (x := 0) (by omega) (by omega) (by omega) (by omega), nxt_fd (by omega) (by omega) (by omega) (by omega)]; omega
theorem three_fd {e : Int} (h0 : 0 ≤ e) (h1 : e ≤ 999) : nxt (nxt (nxt 0 (fd (e / 100))) (fd (e / 10 % 10))) (fd (e % 10)) = e := by
  rw [nxt_fd (x := 0) (by omega) (by omega) (by omega) (by omega), nxt_fd (x := 10 * 0 + e / 100) (by omega) (by omega) (by omega) (by omega), nxt_fd (x := 10 * (10 * 0 + e / 100) + e / 10 % 10) (by omega) (by omega) (by omega) (by omega)]; omega
theorem four_fd {e : Int} (h0 : 0 ≤ e) (h1 : e ≤ 9999) : nxt (nxt (nxt (nxt 0 (fd (e / 1000))) (fd (e / 100 % 10))) (fd (e / 10 % 10))) (fd (e % 10)) = e := by
  rw [nxt_fd (x := 0) (by omega) (by omega) (by omega) (by omega), nxt_fd (x := 10 * 0 + e / 1000) (by omega) (by omega) (by omega) (by omega), nxt_fd (x := 10 * (10 * 0 + e / 1000) + e / 100 % 10) (by omega) (by omega) (by omega) (by omega), nxt_fd (x := 10 * (10 * (10 * 0 + e / 1000) + e / 100 % 10) + e / 10 % 10) (by omega) (by omega) (by omega) (by omega)]; omega
theorem dk_asc (k : Fin 10) : decide ((dkF k).toNat < 128) = true := by
  rw [dk_nat]; exact decide_eq_true (by omega)
theorem asc_ok {l w : List UInt8} (h1 : l.all (fun c => decide (c.toNat < 128)) = true) (h2 : w.all (fun c => decide (c.toNat < 128)) = true) (h3 : decide (l.length < 1000) = true) : ((ascF (ByteArray.mk l.toArray) && (ascF (ByteArray.mk w.toArray) && decide (ByteArray.size (ByteArray.mk l.toArray) < 1000))) == true) = true := by
  have e1 : ascF (ByteArray.mk l.toArray) = true := h1
  have e2 : ascF (ByteArray.mk w.toArray) = true := h2
  have e3 : decide (ByteArray.size (ByteArray.mk l.toArray) < 1000) = true := h3
  rw [e1, e2, e3]; rfl
/-- what holds of a second of the years 1000 to 9999 -/
structure Of (n Y M D h i s : Int) : Prop where
  eY : Y = Clk.dateYear (n / 86400)
  eM : M = Clk.dateMonth (n / 86400)
  eD : D = Clk.dateDay (n / 86400)
  eh : h = n % 86400 / 3600
  ei : i = n % 3600 / 60
  es : s = n % 60
  lo : -377705116800 ≤ n
  hi : n ≤ 253402300799
  y0 : 1000 ≤ Y
  y1 : Y ≤ 9999
  m0 : 0 ≤ M
  m1 : M ≤ 11
  d0 : 1 ≤ D
  d1 : D ≤ 31
  h0 : 0 ≤ h
  h1 : h ≤ 23
  i0 : 0 ≤ i
  i1 : i ≤ 59
  s0 : 0 ≤ s
  s1 : s ≤ 59
  dOk : ((dOkF Y M D) == true) = true
  jOk : ((jOkF Y M D h i (FloatKind.nearest FloatKind.f64 s)) == true) = true
  ns : nsF Y M D h i (FloatKind.nearest FloatKind.f64 s) = n
  fs : ((fsecF (FloatKind.nearest FloatKind.f64 n)) == true) = true
theorem fsec_of {n : Int} (h1 : -377705116800 ≤ n) (h2 : n ≤ 253402300799) : fsecF (Clk.fo n) = true := by
  have e : f2i .f64 (Clk.fo n) = n := Clk.f2i_fo _ (by omega)
  unfold fsecF
  rw [e]
  simp [h1, h2]
theorem len_of (n : Int) (h : 0 ≤ Clk.dateYear n) : Clk.dateDay n ≤ lenF (Clk.dateYear n) (Clk.dateMonth n) := by
  have r := Clk.date_ranges n
  rw [(cumJ_cum (Clk.dateYear n) (Clk.dateMonth n) (by omega) (by omega)).2]
  exact Clk.day_len n _ (leap_L _ h)
theorem of_year {n : Int} (hn : yearN n) : ∃ Y M D h i s, Of n Y M D h i s := by
  obtain ⟨n1, n2, n3⟩ := hn
  have r := Clk.date_ranges (n / 86400)
  have yr := Clk.dateYear_range (n / 86400) (by omega) (by omega)
  have l := len_of (n / 86400) (by omega)
  have e2 : f2i .f64 (Clk.fo (n % 60)) = n % 60 := Clk.f2i_fo _ (by omega)
  have ns : nsF (Clk.dateYear (n / 86400)) (Clk.dateMonth (n / 86400)) (Clk.dateDay (n / 86400)) (n % 86400 / 3600) (n % 3600 / 60) (Clk.fo (n % 60)) = n := by
    unfold nsF
    rw [e2]
    exact secs_back n
  refine ⟨_, _, _, _, _, _, ⟨rfl, rfl, rfl, rfl, rfl, rfl, n1, n2, n3, yr.2, by omega, by omega, by omega, by omega, by omega, by omega, by omega, by omega, by omega, by omega, ?_, ?_, ns, ?_⟩⟩
  · have : dOkF (Clk.dateYear (n / 86400)) (Clk.dateMonth (n / 86400)) (Clk.dateDay (n / 86400)) = true := by
      unfold dOkF
      simp only [Bool.and_eq_true, decide_eq_true_eq]
      omega
    rw [this]; rfl
  · have : jOkF (Clk.dateYear (n / 86400)) (Clk.dateMonth (n / 86400)) (Clk.dateDay (n / 86400)) (n % 86400 / 3600) (n % 3600 / 60) (Clk.fo (n % 60)) = true := by
      unfold jOkF
      rw [ns, e2]
      simp only [Bool.and_eq_true, decide_eq_true_eq, beq_iff_eq]
      refine ⟨trivial, ?_⟩
      omega
    rw [Clk.near_fo, this]; rfl
  · rw [Clk.near_fo, fsec_of n1 n2]; rfl
theorem df {p : Prop} [Decidable p] (h : ¬ p) : ((decide p) == false) = true := by
  rw [decide_eq_false h]; rfl
theorem dt {p : Prop} [Decidable p] (h : p) : ((decide p) == true) = true := by
  rw [decide_eq_true h]; rfl
end Go.Proofs.YthopphfehgdocaaGreatDoor
namespace Go.Proofs.YthopphfehgdocaaGreatDoor
open Go Go.RowKit Go.Ev Go.Proofs Go.Shelf
set_option linter.unusedSimpArgs false
set_option linter.unusedVariables false
theorem parse_ev1 {n : Int} (hn : yearN n) : ∃ H' nx', evFunc (withB laP lpP) 120 13 #[.string (txF 1 n), .string fb1] H0 12 = some (splV (Clk.fo n), H', nx') := by
  obtain ⟨Y, M, D, h, i, s, q⟩ := of_year hn
  obtain ⟨qY, qM, qD, qh, qi, qs, lo, hi, y0, y1, m0, m1, d0, d1, h0, h1, i0, i1, s0, s1, dOk, jOk, ns, fs⟩ := q
  have cY := four_fd (e := Y) (by omega) (by omega)
  have cM := two_fd (e := M + 1) (by omega) (by omega)
  have cD := two_fd (e := D) (by omega) (by omega)
  have ch := two_fd (e := h) (by omega) (by omega)
  have ci := two_fd (e := i) (by omega) (by omega)
  have cs := two_fd (e := s) (by omega) (by omega)
  have wM : IntKind.wrap IntKind.i64 (M + 1 - 1) = M := by rw [show M + 1 - 1 = M by omega]; exact wrap_id _ (by omega) (by omega)
  have tx : txF 1 n = ⟨#[dkF (fd (Y / 1000)), dkF (fd (Y / 100 % 10)), dkF (fd (Y / 10 % 10)), dkF (fd (Y % 10)), 45, dkF (fd ((M + 1) / 10)), dkF (fd ((M + 1) % 10)), 45, dkF (fd (D / 10)), dkF (fd (D % 10)), 32, dkF (fd (h / 10)), dkF (fd (h % 10)), 58, dkF (fd (i / 10)), dkF (fd (i % 10)), 58, dkF (fd (s / 10)), dkF (fd (s % 10))]⟩ := by
    show t1B _ _ _ _ _ _ = _
    rw [← qY, ← qM, ← qD, ← qh, ← qi, ← qs]
    unfold t1B
    simp only [dk_fd (k := Y / 1000) (by omega) (by omega), dk_fd (k := Y / 100 % 10) (by omega) (by omega), dk_fd (k := Y / 10 % 10) (by omega) (by omega), dk_fd (k := Y % 10) (by omega) (by omega), dk_fd (k := (M + 1) / 10) (by omega) (by omega), dk_fd (k := (M + 1) % 10) (by omega) (by omega), dk_fd (k := D / 10) (by omega) (by omega), dk_fd (k := D % 10) (by omega) (by omega), dk_fd (k := h / 10) (by omega) (by omega), dk_fd (k := h % 10) (by omega) (by omega), dk_fd (k := i / 10) (by omega) (by omega), dk_fd (k := i % 10) (by omega) (by omega), dk_fd (k := s / 10) (by omega) (by omega), dk_fd (k := s % 10) (by omega) (by omega)]
  rw [tx]
  have e := par1 (fd (Y / 1000)) (fd (Y / 100 % 10)) (fd (Y / 10 % 10)) (fd (Y % 10)) (fd ((M + 1) / 10)) (fd ((M + 1) % 10)) (fd (D / 10)) (fd (D % 10)) (fd (h / 10)) (fd (h % 10)) (fd (i / 10)) (fd (i % 10)) (fd (s / 10)) (fd (s % 10)) (pl1_ok (by unfold ul1; exact (forall_cons (by rw [cY]; exact df (by omega)) (forall_cons (by rw [cY]; exact df (by omega)) (forall_cons (by rw [cM]; exact df (by omega)) (forall_cons (by rw [cM]; exact df (by omega)) (forall_cons (by rw [cD]; exact df (by omega)) (forall_cons (by rw [cD]; exact df (by omega)) (forall_cons (by rw [ch]; exact df (by omega)) (forall_cons (by rw [ch]; exact df (by omega)) (forall_cons (by rw [ci]; exact df (by omega)) (forall_cons (by rw [ci]; exact df (by omega)) (forall_cons (by rw [cs]; exact df (by omega)) (forall_cons (by rw [cs]; exact df (by omega)) (forall_cons (by rw [cY, cM, cD, wM]; exact dOk) (forall_cons (by rw [cY, cM, cD, ch, ci, cs, wM]; exact jOk) (forall_cons (by rw [cY, cM, cD, ch, ci, cs, wM, ns]; exact fs) forall_nil)))))))))))))))))
  have hx : px1 (fd (Y / 1000)) (fd (Y / 100 % 10)) (fd (Y / 10 % 10)) (fd (Y % 10)) (fd ((M + 1) / 10)) (fd ((M + 1) % 10)) (fd (D / 10)) (fd (D % 10)) (fd (h / 10)) (fd (h % 10)) (fd (i / 10)) (fd (i % 10)) (fd (s / 10)) (fd (s % 10)) = Clk.fo n := by
    unfold px1
    rw [cY, cM, wM, cD, ch, ci, cs, ns]
    rfl
  rw [hx] at e
  exact e

theorem parse_ev5 {n : Int} (hn : yearN n) : ∃ H' nx', evFunc (withB laP lpP) 120 13 #[.string (txF 5 n), .string fb5] H0 12 = some (splV (Clk.fo n), H', nx') := by
  obtain ⟨Y, M, D, h, i, s, q⟩ := of_year hn
  obtain ⟨qY, qM, qD, qh, qi, qs, lo, hi, y0, y1, m0, m1, d0, d1, h0, h1, i0, i1, s0, s1, dOk, jOk, ns, fs⟩ := q
  have cY := four_fd (e := Y) (by omega) (by omega)
  have cM := two_fd (e := M + 1) (by omega) (by omega)
  have cD := two_fd (e := D) (by omega) (by omega)
  have ch := two_fd (e := h) (by omega) (by omega)
  have ci := two_fd (e := i) (by omega) (by omega)
  have cs := two_fd (e := s) (by omega) (by omega)
  have wM : IntKind.wrap IntKind.i64 (M + 1 - 1) = M := by rw [show M + 1 - 1 = M by omega]; exact wrap_id _ (by omega) (by omega)
  have yd := yday_in (n / 86400)
  rw [← qY] at yd
  obtain ⟨J, hJ⟩ : ∃ J, J = n / 86400 - Clk.number Y 0 1 + 1 := ⟨_, rfl⟩
  have cJ := three_fd (e := J) (by omega) (by omega)
  have nb : -4400000 ≤ numdF Y 0 1 ∧ numdF Y 0 1 ≤ 3000000 := by unfold numdF Clk.number; simp only; omega
  have nb' : numdF Y 0 1 = Clk.number Y 0 1 := rfl
  have wX : IntKind.wrap IntKind.i64 ((IntKind.wrap IntKind.i64 ((numdF Y 0 1) + J)) - 1) = n / 86400 := by
    rw [wrap_id (numdF Y 0 1 + J) (by omega) (by omega), wrap_id _ (by omega) (by omega)]
    omega
  obtain ⟨r1, r2, r3, r4⟩ := rd_in (d := n / 86400) (by omega) (by omega)
  rw [← qY] at r2
  rw [← qM] at r3
  rw [← qD] at r4
  have dOk1 : ((dOkF Y 0 1) == true) = true := by
    have l := lenF_pos Y 0 (by omega) (by omega)
    have : dOkF Y 0 1 = true := by
      unfold dOkF
      simp only [Bool.and_eq_true, decide_eq_true_eq]
      omega
    rw [this]; rfl
  have tx : txF 5 n = ⟨#[dkF (fd (J / 100)), dkF (fd (J / 10 % 10)), dkF (fd (J % 10)), 32, dkF (fd (Y / 1000)), dkF (fd (Y / 100 % 10)), dkF (fd (Y / 10 % 10)), dkF (fd (Y % 10)), 32, dkF (fd (h / 10)), dkF (fd (h % 10)), 58, dkF (fd (i / 10)), dkF (fd (i % 10)), 58, dkF (fd (s / 10)), dkF (fd (s % 10))]⟩ := by
    show t5B _ _ _ _ _ = _
    rw [← qY, ← hJ, ← qh, ← qi, ← qs]
    unfold t5B
    simp only [dk_fd (k := J / 100) (by omega) (by omega), dk_fd (k := J / 10 % 10) (by omega) (by omega), dk_fd (k := J % 10) (by omega) (by omega), dk_fd (k := Y / 1000) (by omega) (by omega), dk_fd (k := Y / 100 % 10) (by omega) (by omega), dk_fd (k := Y / 10 % 10) (by omega) (by omega), dk_fd (k := Y % 10) (by omega) (by omega), dk_fd (k := h / 10) (by omega) (by omega), dk_fd (k := h % 10) (by omega) (by omega), dk_fd (k := i / 10) (by omega) (by omega), dk_fd (k := i % 10) (by omega) (by omega), dk_fd (k := s / 10) (by omega) (by omega), dk_fd (k := s % 10) (by omega) (by omega)]
  rw [tx]
  have e := par5 (fd (J / 100)) (fd (J / 10 % 10)) (fd (J % 10)) (fd (Y / 1000)) (fd (Y / 100 % 10)) (fd (Y / 10 % 10)) (fd (Y % 10)) (fd (h / 10)) (fd (h % 10)) (fd (i / 10)) (fd (i % 10)) (fd (s / 10)) (fd (s % 10)) (pl5_ok (by unfold ul5; exact (forall_cons (by rw [cJ]; exact df (by omega)) (forall_cons (by rw [cJ]; exact df (by omega)) (forall_cons (by rw [cY]; exact df (by omega)) (forall_cons (by rw [cY]; exact df (by omega)) (forall_cons (by rw [ch]; exact df (by omega)) (forall_cons (by rw [ch]; exact df (by omega)) (forall_cons (by rw [ci]; exact df (by omega)) (forall_cons (by rw [ci]; exact df (by omega)) (forall_cons (by rw [cs]; exact df (by omega)) (forall_cons (by rw [cs]; exact df (by omega)) (forall_cons (by rw [cJ]; exact dt (by omega)) (forall_cons (by rw [cY]; exact dOk1) (forall_cons (by rw [cY, cJ, wX, r1]; rfl) (forall_cons (by rw [cY, cJ, wX, r2]; simp) (forall_cons (by rw [cY, cJ, wX, r3, r4]; exact dOk) (forall_cons (by rw [cY, ch, ci, cs, cJ, wX, r3, r4]; exact jOk) (forall_cons (by rw [cY, ch, ci, cs, cJ, wX, r3, r4, ns]; exact fs) forall_nil)))))))))))))))))))
  have hx : px5 (fd (J / 100)) (fd (J / 10 % 10)) (fd (J % 10)) (fd (Y / 1000)) (fd (Y / 100 % 10)) (fd (Y / 10 % 10)) (fd (Y % 10)) (fd (h / 10)) (fd (h % 10)) (fd (i / 10)) (fd (i % 10)) (fd (s / 10)) (fd (s % 10)) = Clk.fo n := by
    unfold px5
    rw [cY, cJ, wX, r3, r4, ch, ci, cs, ns]
    rfl
  rw [hx] at e
  exact e

theorem parse_ev6 {n : Int} (hn : yearN n) : ∃ H' nx', evFunc (withB laP lpP) 120 13 #[.string (txF 6 n), .string fb6] H0 12 = some (splV (Clk.fo n), H', nx') := by
  obtain ⟨Y, M, D, h, i, s, q⟩ := of_year hn
  obtain ⟨qY, qM, qD, qh, qi, qs, lo, hi, y0, y1, m0, m1, d0, d1, h0, h1, i0, i1, s0, s1, dOk, jOk, ns, fs⟩ := q
  have cY := four_fd (e := Y) (by omega) (by omega)
  have cM := two_fd (e := M + 1) (by omega) (by omega)
  have cD := two_fd (e := D) (by omega) (by omega)
  have ch := two_fd (e := h) (by omega) (by omega)
  have ci := two_fd (e := i) (by omega) (by omega)
  have cs := two_fd (e := s) (by omega) (by omega)
  have wM : IntKind.wrap IntKind.i64 (M + 1 - 1) = M := by rw [show M + 1 - 1 = M by omega]; exact wrap_id _ (by omega) (by omega)
  have q1 : Int.tdiv Y 100 = Y / 100 := Int.tdiv_eq_ediv_of_nonneg (by omega)
  have q2 : Int.tmod Y 100 = Y % 100 := Int.tmod_eq_emod_of_nonneg (by omega)
  have cC := two_fd (e := Y / 100) (by omega) (by omega)
  have cZ := two_fd (e := Y % 100) (by omega) (by omega)
  have wY : IntKind.wrap IntKind.i64 ((IntKind.wrap IntKind.i64 (100 * (Y / 100))) + (if (0 > (Y % 100)) then 0 else (Y % 100))) = Y := by
    rw [if_neg (by omega), wrap_id (100 * (Y / 100)) (by omega) (by omega), wrap_id _ (by omega) (by omega)]
    omega
  have tx : txF 6 n = ⟨#[dkF (fd (Y / 100 / 10)), dkF (fd (Y / 100 % 10)), dkF (fd (Y % 100 / 10)), dkF (fd (Y % 100 % 10)), dkF (fd ((M + 1) / 10)), dkF (fd ((M + 1) % 10)), dkF (fd (D / 10)), dkF (fd (D % 10)), 84, dkF (fd (h / 10)), dkF (fd (h % 10)), dkF (fd (i / 10)), dkF (fd (i % 10)), dkF (fd (s / 10)), dkF (fd (s % 10))]⟩ := by
    show t6B _ _ _ _ _ _ = _
    rw [← qY, ← qM, ← qD, ← qh, ← qi, ← qs]
    unfold t6B
    rw [q1, q2]
    simp only [dk_fd (k := Y / 100 / 10) (by omega) (by omega), dk_fd (k := Y / 100 % 10) (by omega) (by omega), dk_fd (k := Y % 100 / 10) (by omega) (by omega), dk_fd (k := Y % 100 % 10) (by omega) (by omega), dk_fd (k := (M + 1) / 10) (by omega) (by omega), dk_fd (k := (M + 1) % 10) (by omega) (by omega), dk_fd (k := D / 10) (by omega) (by omega), dk_fd (k := D % 10) (by omega) (by omega), dk_fd (k := h / 10) (by omega) (by omega), dk_fd (k := h % 10) (by omega) (by omega), dk_fd (k := i / 10) (by omega) (by omega), dk_fd (k := i % 10) (by omega) (by omega), dk_fd (k := s / 10) (by omega) (by omega), dk_fd (k := s % 10) (by omega) (by omega)]
  rw [tx]
  have e := par6 (fd (Y / 100 / 10)) (fd (Y / 100 % 10)) (fd (Y % 100 / 10)) (fd (Y % 100 % 10)) (fd ((M + 1) / 10)) (fd ((M + 1) % 10)) (fd (D / 10)) (fd (D % 10)) (fd (h / 10)) (fd (h % 10)) (fd (i / 10)) (fd (i % 10)) (fd (s / 10)) (fd (s % 10)) (pl6_ok (by unfold ul6; exact (forall_cons (by rw [cC]; exact df (by omega)) (forall_cons (by rw [cC]; exact df (by omega)) (forall_cons (by rw [cZ]; exact df (by omega)) (forall_cons (by rw [cZ]; exact df (by omega)) (forall_cons (by rw [cM]; exact df (by omega)) (forall_cons (by rw [cM]; exact df (by omega)) (forall_cons (by rw [cD]; exact df (by omega)) (forall_cons (by rw [cD]; exact df (by omega)) (forall_cons (by rw [ch]; exact df (by omega)) (forall_cons (by rw [ch]; exact df (by omega)) (forall_cons (by rw [ci]; exact df (by omega)) (forall_cons (by rw [ci]; exact df (by omega)) (forall_cons (by rw [cs]; exact df (by omega)) (forall_cons (by rw [cs]; exact df (by omega)) (forall_cons (by rw [cC]; exact dt (by omega)) (forall_cons (by rw [cM, cD, cC, cZ, wM, wY]; exact dOk) (forall_cons (by rw [cM, cD, ch, ci, cs, cC, cZ, wM, wY]; exact jOk) (forall_cons (by rw [cM, cD, ch, ci, cs, cC, cZ, wM, wY, ns]; exact fs) forall_nil))))))))))))))))))))
  have hx : px6 (fd (Y / 100 / 10)) (fd (Y / 100 % 10)) (fd (Y % 100 / 10)) (fd (Y % 100 % 10)) (fd ((M + 1) / 10)) (fd ((M + 1) % 10)) (fd (D / 10)) (fd (D % 10)) (fd (h / 10)) (fd (h % 10)) (fd (i / 10)) (fd (i % 10)) (fd (s / 10)) (fd (s % 10)) = Clk.fo n := by
    unfold px6
    rw [cC, cZ, wY, cM, wM, cD, ch, ci, cs, ns]
    rfl
  rw [hx] at e
  exact e

end Go.Proofs.YthopphfehgdocaaGreatDoor
namespace Go.Proofs.YthopphfehgdocaaGreatDoor
open Go Go.RowKit Go.Ev Go.Proofs Go.Shelf
set_option linter.unusedSimpArgs false
set_option linter.unusedVariables false
theorem l32 : decide ((32 : UInt8).toNat < 128) = true := by decide
theorem l47 : decide ((47 : UInt8).toNat < 128) = true := by decide
theorem pl20_all {n Y M D h i s : Int} (q : Of n Y M D h i s) (hD : D < 10)  (a1 a2 a3 c1 c2 c3 : UInt8) (la1 : decide (a1.toNat < 128) = true) (la2 : decide (a2.toNat < 128) = true) (la3 : decide (a3.toNat < 128) = true) (lc1 : decide (c1.toNat < 128) = true) (lc2 : decide (c2.toNat < 128) = true) (lc3 : decide (c3.toNat < 128) = true) : ∀ b ∈ pl20 a1 a2 a3 c1 c2 c3 M (fd (D % 10)) (fd (h / 10)) (fd (h % 10)) (fd (i / 10)) (fd (i % 10)) (fd (s / 10)) (fd (s % 10)) (fd (Y / 1000)) (fd (Y / 100 % 10)) (fd (Y / 10 % 10)) (fd (Y % 10)), b = true := by
  obtain ⟨qY, qM, qD, qh, qi, qs, lo, hi, y0, y1, m0, m1, d0, d1, h0, h1, i0, i1, s0, s1, dOk, jOk, ns, fs⟩ := q
  have cY := four_fd (e := Y) (by omega) (by omega)
  have cD := one_fd (e := D) (by omega) (by omega)
  have ch := two_fd (e := h) (by omega) (by omega)
  have ci := two_fd (e := i) (by omega) (by omega)
  have cs := two_fd (e := s) (by omega) (by omega)
  exact pl20_ok (by unfold ul20; exact (forall_cons (asc_ok (by simp only [List.all_cons, List.all_nil, dk_asc, la1, la2, la3, lc1, lc2, lc3, l32, l47, Bool.and_self]) (by decide) (by rfl)) (forall_cons (asc_ok (by simp only [List.all_cons, List.all_nil, dk_asc, la1, la2, la3, lc1, lc2, lc3, l32, l47, Bool.and_self]) (by decide) (by rfl)) (forall_cons (asc_ok (by simp only [List.all_cons, List.all_nil, dk_asc, la1, la2, la3, lc1, lc2, lc3, l32, l47, Bool.and_self]) (by decide) (by rfl)) (forall_cons (asc_ok (by simp only [List.all_cons, List.all_nil, dk_asc, la1, la2, la3, lc1, lc2, lc3, l32, l47, Bool.and_self]) (by decide) (by rfl)) (forall_cons (asc_ok (by simp only [List.all_cons, List.all_nil, dk_asc, la1, la2, la3, lc1, lc2, lc3, l32, l47, Bool.and_self]) (by decide) (by rfl)) (forall_cons (asc_ok (by simp only [List.all_cons, List.all_nil, dk_asc, la1, la2, la3, lc1, lc2, lc3, l32, l47, Bool.and_self]) (by decide) (by rfl)) (forall_cons (asc_ok (by simp only [List.all_cons, List.all_nil, dk_asc, la1, la2, la3, lc1, lc2, lc3, l32, l47, Bool.and_self]) (by decide) (by rfl)) (forall_cons (by rw [cD]; exact df (by omega)) (forall_cons (by rw [cD]; exact df (by omega)) (forall_cons (by rw [ch]; exact df (by omega)) (forall_cons (by rw [ch]; exact df (by omega)) (forall_cons (by rw [ci]; exact df (by omega)) (forall_cons (by rw [ci]; exact df (by omega)) (forall_cons (by rw [cs]; exact df (by omega)) (forall_cons (by rw [cs]; exact df (by omega)) (forall_cons (by rw [cY]; exact df (by omega)) (forall_cons (by rw [cY]; exact df (by omega)) (forall_cons (by rw [cY, cD]; exact dOk) (forall_cons (by rw [cY, cD, ch, ci, cs]; exact jOk) (forall_cons (by rw [cY, cD, ch, ci, cs, ns]; exact fs) forall_nil)))))))))))))))))))))

theorem px20_eq {n Y M D h i s : Int} (q : Of n Y M D h i s) (hD : D < 10)  : px20 M (fd (D % 10)) (fd (h / 10)) (fd (h % 10)) (fd (i / 10)) (fd (i % 10)) (fd (s / 10)) (fd (s % 10)) (fd (Y / 1000)) (fd (Y / 100 % 10)) (fd (Y / 10 % 10)) (fd (Y % 10)) = Clk.fo n := by
  obtain ⟨qY, qM, qD, qh, qi, qs, lo, hi, y0, y1, m0, m1, d0, d1, h0, h1, i0, i1, s0, s1, dOk, jOk, ns, fs⟩ := q
  have cY := four_fd (e := Y) (by omega) (by omega)
  have cD := one_fd (e := D) (by omega) (by omega)
  have ch := two_fd (e := h) (by omega) (by omega)
  have ci := two_fd (e := i) (by omega) (by omega)
  have cs := two_fd (e := s) (by omega) (by omega)
  unfold px20
  rw [cY, cD, ch, ci, cs, ns]
  rfl

theorem pl21_all {n Y M D h i s : Int} (q : Of n Y M D h i s)   (a1 a2 a3 c1 c2 c3 : UInt8) (la1 : decide (a1.toNat < 128) = true) (la2 : decide (a2.toNat < 128) = true) (la3 : decide (a3.toNat < 128) = true) (lc1 : decide (c1.toNat < 128) = true) (lc2 : decide (c2.toNat < 128) = true) (lc3 : decide (c3.toNat < 128) = true) : ∀ b ∈ pl21 a1 a2 a3 c1 c2 c3 M (fd (D / 10)) (fd (D % 10)) (fd (h / 10)) (fd (h % 10)) (fd (i / 10)) (fd (i % 10)) (fd (s / 10)) (fd (s % 10)) (fd (Y / 1000)) (fd (Y / 100 % 10)) (fd (Y / 10 % 10)) (fd (Y % 10)), b = true := by
  obtain ⟨qY, qM, qD, qh, qi, qs, lo, hi, y0, y1, m0, m1, d0, d1, h0, h1, i0, i1, s0, s1, dOk, jOk, ns, fs⟩ := q
  have cY := four_fd (e := Y) (by omega) (by omega)
  have cD := two_fd (e := D) (by omega) (by omega)
  have ch := two_fd (e := h) (by omega) (by omega)
  have ci := two_fd (e := i) (by omega) (by omega)
  have cs := two_fd (e := s) (by omega) (by omega)
  exact pl21_ok (by unfold ul21; exact (forall_cons (asc_ok (by simp only [List.all_cons, List.all_nil, dk_asc, la1, la2, la3, lc1, lc2, lc3, l32, l47, Bool.and_self]) (by decide) (by rfl)) (forall_cons (asc_ok (by simp only [List.all_cons, List.all_nil, dk_asc, la1, la2, la3, lc1, lc2, lc3, l32, l47, Bool.and_self]) (by decide) (by rfl)) (forall_cons (asc_ok (by simp only [List.all_cons, List.all_nil, dk_asc, la1, la2, la3, lc1, lc2, lc3, l32, l47, Bool.and_self]) (by decide) (by rfl)) (forall_cons (asc_ok (by simp only [List.all_cons, List.all_nil, dk_asc, la1, la2, la3, lc1, lc2, lc3, l32, l47, Bool.and_self]) (by decide) (by rfl)) (forall_cons (asc_ok (by simp only [List.all_cons, List.all_nil, dk_asc, la1, la2, la3, lc1, lc2, lc3, l32, l47, Bool.and_self]) (by decide) (by rfl)) (forall_cons (asc_ok (by simp only [List.all_cons, List.all_nil, dk_asc, la1, la2, la3, lc1, lc2, lc3, l32, l47, Bool.and_self]) (by decide) (by rfl)) (forall_cons (asc_ok (by simp only [List.all_cons, List.all_nil, dk_asc, la1, la2, la3, lc1, lc2, lc3, l32, l47, Bool.and_self]) (by decide) (by rfl)) (forall_cons (asc_ok (by simp only [List.all_cons, List.all_nil, dk_asc, la1, la2, la3, lc1, lc2, lc3, l32, l47, Bool.and_self]) (by decide) (by rfl)) (forall_cons (asc_ok (by simp only [List.all_cons, List.all_nil, dk_asc, la1, la2, la3, lc1, lc2, lc3, l32, l47, Bool.and_self]) (by decide) (by rfl)) (forall_cons (asc_ok (by simp only [List.all_cons, List.all_nil, dk_asc, la1, la2, la3, lc1, lc2, lc3, l32, l47, Bool.and_self]) (by decide) (by rfl)) (forall_cons (by rw [cD]; exact df (by omega)) (forall_cons (by rw [cD]; exact df (by omega)) (forall_cons (by rw [ch]; exact df (by omega)) (forall_cons (by rw [ch]; exact df (by omega)) (forall_cons (by rw [ci]; exact df (by omega)) (forall_cons (by rw [ci]; exact df (by omega)) (forall_cons (by rw [cs]; exact df (by omega)) (forall_cons (by rw [cs]; exact df (by omega)) (forall_cons (by rw [cY]; exact df (by omega)) (forall_cons (by rw [cY]; exact df (by omega)) (forall_cons (by rw [cY, cD]; exact dOk) (forall_cons (by rw [cY, cD, ch, ci, cs]; exact jOk) (forall_cons (by rw [cY, cD, ch, ci, cs, ns]; exact fs) forall_nil))))))))))))))))))))))))

theorem px21_eq {n Y M D h i s : Int} (q : Of n Y M D h i s)   : px21 M (fd (D / 10)) (fd (D % 10)) (fd (h / 10)) (fd (h % 10)) (fd (i / 10)) (fd (i % 10)) (fd (s / 10)) (fd (s % 10)) (fd (Y / 1000)) (fd (Y / 100 % 10)) (fd (Y / 10 % 10)) (fd (Y % 10)) = Clk.fo n := by
  obtain ⟨qY, qM, qD, qh, qi, qs, lo, hi, y0, y1, m0, m1, d0, d1, h0, h1, i0, i1, s0, s1, dOk, jOk, ns, fs⟩ := q
  have cY := four_fd (e := Y) (by omega) (by omega)
  have cD := two_fd (e := D) (by omega) (by omega)
  have ch := two_fd (e := h) (by omega) (by omega)
  have ci := two_fd (e := i) (by omega) (by omega)
  have cs := two_fd (e := s) (by omega) (by omega)
  unfold px21
  rw [cY, cD, ch, ci, cs, ns]
  rfl

theorem pl2m0_all {n Y M D h i s : Int} (q : Of n Y M D h i s) (hD : D < 10)  (a1 a2 a3 c1 c2 c3 : UInt8) (la1 : decide (a1.toNat < 128) = true) (la2 : decide (a2.toNat < 128) = true) (la3 : decide (a3.toNat < 128) = true) (lc1 : decide (c1.toNat < 128) = true) (lc2 : decide (c2.toNat < 128) = true) (lc3 : decide (c3.toNat < 128) = true) : ∀ b ∈ pl2m0 a1 a2 a3 c1 c2 c3 M (fd (D % 10)) (fd (h / 10)) (fd (h % 10)) (fd (i / 10)) (fd (i % 10)) (fd (s / 10)) (fd (s % 10)) (fd (Y / 1000)) (fd (Y / 100 % 10)) (fd (Y / 10 % 10)) (fd (Y % 10)), b = true := by
  obtain ⟨qY, qM, qD, qh, qi, qs, lo, hi, y0, y1, m0, m1, d0, d1, h0, h1, i0, i1, s0, s1, dOk, jOk, ns, fs⟩ := q
  have cY := four_fd (e := Y) (by omega) (by omega)
  have cD := one_fd (e := D) (by omega) (by omega)
  have ch := two_fd (e := h) (by omega) (by omega)
  have ci := two_fd (e := i) (by omega) (by omega)
  have cs := two_fd (e := s) (by omega) (by omega)
  exact pl2m0_ok (by unfold ul2m0; exact (forall_cons (asc_ok (by simp only [List.all_cons, List.all_nil, dk_asc, la1, la2, la3, lc1, lc2, lc3, l32, l47, Bool.and_self]) (by decide) (by rfl)) (forall_cons (asc_ok (by simp only [List.all_cons, List.all_nil, dk_asc, la1, la2, la3, lc1, lc2, lc3, l32, l47, Bool.and_self]) (by decide) (by rfl)) (forall_cons (by rw [cD]; exact df (by omega)) (forall_cons (by rw [cD]; exact df (by omega)) (forall_cons (by rw [ch]; exact df (by omega)) (forall_cons (by rw [ch]; exact df (by omega)) (forall_cons (by rw [ci]; exact df (by omega)) (forall_cons (by rw [ci]; exact df (by omega)) (forall_cons (by rw [cs]; exact df (by omega)) (forall_cons (by rw [cs]; exact df (by omega)) (forall_cons (by rw [cY]; exact df (by omega)) (forall_cons (by rw [cY]; exact df (by omega)) (forall_cons (by rw [cY, cD]; exact dOk) (forall_cons (by rw [cY, cD, ch, ci, cs]; exact jOk) (forall_cons (by rw [cY, cD, ch, ci, cs, ns]; exact fs) forall_nil))))))))))))))))

theorem px2m0_eq {n Y M D h i s : Int} (q : Of n Y M D h i s) (hD : D < 10)  : px2m0 M (fd (D % 10)) (fd (h / 10)) (fd (h % 10)) (fd (i / 10)) (fd (i % 10)) (fd (s / 10)) (fd (s % 10)) (fd (Y / 1000)) (fd (Y / 100 % 10)) (fd (Y / 10 % 10)) (fd (Y % 10)) = Clk.fo n := by
  obtain ⟨qY, qM, qD, qh, qi, qs, lo, hi, y0, y1, m0, m1, d0, d1, h0, h1, i0, i1, s0, s1, dOk, jOk, ns, fs⟩ := q
  have cY := four_fd (e := Y) (by omega) (by omega)
  have cD := one_fd (e := D) (by omega) (by omega)
  have ch := two_fd (e := h) (by omega) (by omega)
  have ci := two_fd (e := i) (by omega) (by omega)
  have cs := two_fd (e := s) (by omega) (by omega)
  unfold px2m0
  rw [cY, cD, ch, ci, cs, ns]
  rfl

theorem pl2m1_all {n Y M D h i s : Int} (q : Of n Y M D h i s)   (a1 a2 a3 c1 c2 c3 : UInt8) (la1 : decide (a1.toNat < 128) = true) (la2 : decide (a2.toNat < 128) = true) (la3 : decide (a3.toNat < 128) = true) (lc1 : decide (c1.toNat < 128) = true) (lc2 : decide (c2.toNat < 128) = true) (lc3 : decide (c3.toNat < 128) = true) : ∀ b ∈ pl2m1 a1 a2 a3 c1 c2 c3 M (fd (D / 10)) (fd (D % 10)) (fd (h / 10)) (fd (h % 10)) (fd (i / 10)) (fd (i % 10)) (fd (s / 10)) (fd (s % 10)) (fd (Y / 1000)) (fd (Y / 100 % 10)) (fd (Y / 10 % 10)) (fd (Y % 10)), b = true := by
  obtain ⟨qY, qM, qD, qh, qi, qs, lo, hi, y0, y1, m0, m1, d0, d1, h0, h1, i0, i1, s0, s1, dOk, jOk, ns, fs⟩ := q
  have cY := four_fd (e := Y) (by omega) (by omega)
  have cD := two_fd (e := D) (by omega) (by omega)
  have ch := two_fd (e := h) (by omega) (by omega)
  have ci := two_fd (e := i) (by omega) (by omega)
  have cs := two_fd (e := s) (by omega) (by omega)
  exact pl2m1_ok (by unfold ul2m1; exact (forall_cons (asc_ok (by simp only [List.all_cons, List.all_nil, dk_asc, la1, la2, la3, lc1, lc2, lc3, l32, l47, Bool.and_self]) (by decide) (by rfl)) (forall_cons (asc_ok (by simp only [List.all_cons, List.all_nil, dk_asc, la1, la2, la3, lc1, lc2, lc3, l32, l47, Bool.and_self]) (by decide) (by rfl)) (forall_cons (asc_ok (by simp only [List.all_cons, List.all_nil, dk_asc, la1, la2, la3, lc1, lc2, lc3, l32, l47, Bool.and_self]) (by decide) (by rfl)) (forall_cons (asc_ok (by simp only [List.all_cons, List.all_nil, dk_asc, la1, la2, la3, lc1, lc2, lc3, l32, l47, Bool.and_self]) (by decide) (by rfl)) (forall_cons (asc_ok (by simp only [List.all_cons, List.all_nil, dk_asc, la1, la2, la3, lc1, lc2, lc3, l32, l47, Bool.and_self]) (by decide) (by rfl)) (forall_cons (by rw [cD]; exact df (by omega)) (forall_cons (by rw [cD]; exact df (by omega)) (forall_cons (by rw [ch]; exact df (by omega)) (forall_cons (by rw [ch]; exact df (by omega)) (forall_cons (by rw [ci]; exact df (by omega)) (forall_cons (by rw [ci]; exact df (by omega)) (forall_cons (by rw [cs]; exact df (by omega)) (forall_cons (by rw [cs]; exact df (by omega)) (forall_cons (by rw [cY]; exact df (by omega)) (forall_cons (by rw [cY]; exact df (by omega)) (forall_cons (by rw [cY, cD]; exact dOk) (forall_cons (by rw [cY, cD, ch, ci, cs]; exact jOk) (forall_cons (by rw [cY, cD, ch, ci, cs, ns]; exact fs) forall_nil)))))))))))))))))))

theorem px2m1_eq {n Y M D h i s : Int} (q : Of n Y M D h i s)   : px2m1 M (fd (D / 10)) (fd (D % 10)) (fd (h / 10)) (fd (h % 10)) (fd (i / 10)) (fd (i % 10)) (fd (s / 10)) (fd (s % 10)) (fd (Y / 1000)) (fd (Y / 100 % 10)) (fd (Y / 10 % 10)) (fd (Y % 10)) = Clk.fo n := by
  obtain ⟨qY, qM, qD, qh, qi, qs, lo, hi, y0, y1, m0, m1, d0, d1, h0, h1, i0, i1, s0, s1, dOk, jOk, ns, fs⟩ := q
  have cY := four_fd (e := Y) (by omega) (by omega)
  have cD := two_fd (e := D) (by omega) (by omega)
  have ch := two_fd (e := h) (by omega) (by omega)
  have ci := two_fd (e := i) (by omega) (by omega)
  have cs := two_fd (e := s) (by omega) (by omega)
  unfold px2m1
  rw [cY, cD, ch, ci, cs, ns]
  rfl

theorem pl40_all {n Y M D h i s : Int} (q : Of n Y M D h i s) (hh : h < 12) (T : Int) (hT : T = (h + 11) % 12 + 1) (a1 a2 a3 c1 c2 c3 : UInt8) (la1 : decide (a1.toNat < 128) = true) (la2 : decide (a2.toNat < 128) = true) (la3 : decide (a3.toNat < 128) = true) (lc1 : decide (c1.toNat < 128) = true) (lc2 : decide (c2.toNat < 128) = true) (lc3 : decide (c3.toNat < 128) = true) : ∀ b ∈ pl40 a1 a2 a3 c1 c2 c3 M (fd (D / 10)) (fd (D % 10)) (fd (Y / 1000)) (fd (Y / 100 % 10)) (fd (Y / 10 % 10)) (fd (Y % 10)) (fd (T / 10)) (fd (T % 10)) (fd (i / 10)) (fd (i % 10)) (fd (s / 10)) (fd (s % 10)), b = true := by
  obtain ⟨qY, qM, qD, qh, qi, qs, lo, hi, y0, y1, m0, m1, d0, d1, h0, h1, i0, i1, s0, s1, dOk, jOk, ns, fs⟩ := q
  have cY := four_fd (e := Y) (by omega) (by omega)
  have cD := two_fd (e := D) (by omega) (by omega)
  have ch := two_fd (e := T) (by omega) (by omega)
  have ci := two_fd (e := i) (by omega) (by omega)
  have cs := two_fd (e := s) (by omega) (by omega)
  have wT : Int.tmod T 12 = h := by rw [Int.tmod_eq_emod_of_nonneg (by omega)]; omega
  exact pl40_ok (by unfold ul40; exact (forall_cons (by rw [cD]; exact df (by omega)) (forall_cons (by rw [cD]; exact df (by omega)) (forall_cons (asc_ok (by simp only [List.all_cons, List.all_nil, dk_asc, la1, la2, la3, lc1, lc2, lc3, l32, l47, Bool.and_self]) (by decide) (by rfl)) (forall_cons (asc_ok (by simp only [List.all_cons, List.all_nil, dk_asc, la1, la2, la3, lc1, lc2, lc3, l32, l47, Bool.and_self]) (by decide) (by rfl)) (forall_cons (asc_ok (by simp only [List.all_cons, List.all_nil, dk_asc, la1, la2, la3, lc1, lc2, lc3, l32, l47, Bool.and_self]) (by decide) (by rfl)) (forall_cons (asc_ok (by simp only [List.all_cons, List.all_nil, dk_asc, la1, la2, la3, lc1, lc2, lc3, l32, l47, Bool.and_self]) (by decide) (by rfl)) (forall_cons (asc_ok (by simp only [List.all_cons, List.all_nil, dk_asc, la1, la2, la3, lc1, lc2, lc3, l32, l47, Bool.and_self]) (by decide) (by rfl)) (forall_cons (asc_ok (by simp only [List.all_cons, List.all_nil, dk_asc, la1, la2, la3, lc1, lc2, lc3, l32, l47, Bool.and_self]) (by decide) (by rfl)) (forall_cons (asc_ok (by simp only [List.all_cons, List.all_nil, dk_asc, la1, la2, la3, lc1, lc2, lc3, l32, l47, Bool.and_self]) (by decide) (by rfl)) (forall_cons (asc_ok (by simp only [List.all_cons, List.all_nil, dk_asc, la1, la2, la3, lc1, lc2, lc3, l32, l47, Bool.and_self]) (by decide) (by rfl)) (forall_cons (asc_ok (by simp only [List.all_cons, List.all_nil, dk_asc, la1, la2, la3, lc1, lc2, lc3, l32, l47, Bool.and_self]) (by decide) (by rfl)) (forall_cons (by rw [cY]; exact df (by omega)) (forall_cons (by rw [cY]; exact df (by omega)) (forall_cons (by rw [ch]; exact df (by omega)) (forall_cons (by rw [ch]; exact df (by omega)) (forall_cons (by rw [ci]; exact df (by omega)) (forall_cons (by rw [ci]; exact df (by omega)) (forall_cons (by rw [cs]; exact df (by omega)) (forall_cons (by rw [cs]; exact df (by omega)) (forall_cons (by rw [cY, cD]; exact dOk) (forall_cons (by rw [cY, cD, ch, ci, cs, wT]; exact jOk) (forall_cons (by rw [cY, cD, ch, ci, cs, wT, ns]; exact fs) forall_nil)))))))))))))))))))))))

theorem px40_eq {n Y M D h i s : Int} (q : Of n Y M D h i s) (hh : h < 12) (T : Int) (hT : T = (h + 11) % 12 + 1) : px40 M (fd (D / 10)) (fd (D % 10)) (fd (Y / 1000)) (fd (Y / 100 % 10)) (fd (Y / 10 % 10)) (fd (Y % 10)) (fd (T / 10)) (fd (T % 10)) (fd (i / 10)) (fd (i % 10)) (fd (s / 10)) (fd (s % 10)) = Clk.fo n := by
  obtain ⟨qY, qM, qD, qh, qi, qs, lo, hi, y0, y1, m0, m1, d0, d1, h0, h1, i0, i1, s0, s1, dOk, jOk, ns, fs⟩ := q
  have cY := four_fd (e := Y) (by omega) (by omega)
  have cD := two_fd (e := D) (by omega) (by omega)
  have ch := two_fd (e := T) (by omega) (by omega)
  have ci := two_fd (e := i) (by omega) (by omega)
  have cs := two_fd (e := s) (by omega) (by omega)
  have wT : Int.tmod T 12 = h := by rw [Int.tmod_eq_emod_of_nonneg (by omega)]; omega
  unfold px40
  rw [cY, cD, ch, wT, ci, cs, ns]
  rfl

theorem pl41_all {n Y M D h i s : Int} (q : Of n Y M D h i s) (hh : 12 ≤ h) (T : Int) (hT : T = (h + 11) % 12 + 1) (a1 a2 a3 c1 c2 c3 : UInt8) (la1 : decide (a1.toNat < 128) = true) (la2 : decide (a2.toNat < 128) = true) (la3 : decide (a3.toNat < 128) = true) (lc1 : decide (c1.toNat < 128) = true) (lc2 : decide (c2.toNat < 128) = true) (lc3 : decide (c3.toNat < 128) = true) : ∀ b ∈ pl41 a1 a2 a3 c1 c2 c3 M (fd (D / 10)) (fd (D % 10)) (fd (Y / 1000)) (fd (Y / 100 % 10)) (fd (Y / 10 % 10)) (fd (Y % 10)) (fd (T / 10)) (fd (T % 10)) (fd (i / 10)) (fd (i % 10)) (fd (s / 10)) (fd (s % 10)), b = true := by
  obtain ⟨qY, qM, qD, qh, qi, qs, lo, hi, y0, y1, m0, m1, d0, d1, h0, h1, i0, i1, s0, s1, dOk, jOk, ns, fs⟩ := q
  have cY := four_fd (e := Y) (by omega) (by omega)
  have cD := two_fd (e := D) (by omega) (by omega)
  have ch := two_fd (e := T) (by omega) (by omega)
  have ci := two_fd (e := i) (by omega) (by omega)
  have cs := two_fd (e := s) (by omega) (by omega)
  have wT : IntKind.wrap IntKind.i64 ((Int.tmod T 12) + 12) = h := by rw [Int.tmod_eq_emod_of_nonneg (by omega), wrap_id _ (by omega) (by omega)]; omega
  exact pl41_ok (by unfold ul41; exact (forall_cons (by rw [cD]; exact df (by omega)) (forall_cons (by rw [cD]; exact df (by omega)) (forall_cons (asc_ok (by simp only [List.all_cons, List.all_nil, dk_asc, la1, la2, la3, lc1, lc2, lc3, l32, l47, Bool.and_self]) (by decide) (by rfl)) (forall_cons (asc_ok (by simp only [List.all_cons, List.all_nil, dk_asc, la1, la2, la3, lc1, lc2, lc3, l32, l47, Bool.and_self]) (by decide) (by rfl)) (forall_cons (asc_ok (by simp only [List.all_cons, List.all_nil, dk_asc, la1, la2, la3, lc1, lc2, lc3, l32, l47, Bool.and_self]) (by decide) (by rfl)) (forall_cons (asc_ok (by simp only [List.all_cons, List.all_nil, dk_asc, la1, la2, la3, lc1, lc2, lc3, l32, l47, Bool.and_self]) (by decide) (by rfl)) (forall_cons (asc_ok (by simp only [List.all_cons, List.all_nil, dk_asc, la1, la2, la3, lc1, lc2, lc3, l32, l47, Bool.and_self]) (by decide) (by rfl)) (forall_cons (asc_ok (by simp only [List.all_cons, List.all_nil, dk_asc, la1, la2, la3, lc1, lc2, lc3, l32, l47, Bool.and_self]) (by decide) (by rfl)) (forall_cons (asc_ok (by simp only [List.all_cons, List.all_nil, dk_asc, la1, la2, la3, lc1, lc2, lc3, l32, l47, Bool.and_self]) (by decide) (by rfl)) (forall_cons (asc_ok (by simp only [List.all_cons, List.all_nil, dk_asc, la1, la2, la3, lc1, lc2, lc3, l32, l47, Bool.and_self]) (by decide) (by rfl)) (forall_cons (asc_ok (by simp only [List.all_cons, List.all_nil, dk_asc, la1, la2, la3, lc1, lc2, lc3, l32, l47, Bool.and_self]) (by decide) (by rfl)) (forall_cons (by rw [cY]; exact df (by omega)) (forall_cons (by rw [cY]; exact df (by omega)) (forall_cons (by rw [ch]; exact df (by omega)) (forall_cons (by rw [ch]; exact df (by omega)) (forall_cons (by rw [ci]; exact df (by omega)) (forall_cons (by rw [ci]; exact df (by omega)) (forall_cons (by rw [cs]; exact df (by omega)) (forall_cons (by rw [cs]; exact df (by omega)) (forall_cons (by rw [cY, cD]; exact dOk) (forall_cons (by rw [cY, cD, ch, ci, cs, wT]; exact jOk) (forall_cons (by rw [cY, cD, ch, ci, cs, wT, ns]; exact fs) forall_nil)))))))))))))))))))))))

theorem px41_eq {n Y M D h i s : Int} (q : Of n Y M D h i s) (hh : 12 ≤ h) (T : Int) (hT : T = (h + 11) % 12 + 1) : px41 M (fd (D / 10)) (fd (D % 10)) (fd (Y / 1000)) (fd (Y / 100 % 10)) (fd (Y / 10 % 10)) (fd (Y % 10)) (fd (T / 10)) (fd (T % 10)) (fd (i / 10)) (fd (i % 10)) (fd (s / 10)) (fd (s % 10)) = Clk.fo n := by
  obtain ⟨qY, qM, qD, qh, qi, qs, lo, hi, y0, y1, m0, m1, d0, d1, h0, h1, i0, i1, s0, s1, dOk, jOk, ns, fs⟩ := q
  have cY := four_fd (e := Y) (by omega) (by omega)
  have cD := two_fd (e := D) (by omega) (by omega)
  have ch := two_fd (e := T) (by omega) (by omega)
  have ci := two_fd (e := i) (by omega) (by omega)
  have cs := two_fd (e := s) (by omega) (by omega)
  have wT : IntKind.wrap IntKind.i64 ((Int.tmod T 12) + 12) = h := by rw [Int.tmod_eq_emod_of_nonneg (by omega), wrap_id _ (by omega) (by omega)]; omega
  unfold px41
  rw [cY, cD, ch, wT, ci, cs, ns]
  rfl

theorem pl4m0_all {n Y M D h i s : Int} (q : Of n Y M D h i s) (hh : h < 12) (T : Int) (hT : T = (h + 11) % 12 + 1) (a1 a2 a3 c1 c2 c3 : UInt8) (la1 : decide (a1.toNat < 128) = true) (la2 : decide (a2.toNat < 128) = true) (la3 : decide (a3.toNat < 128) = true) (lc1 : decide (c1.toNat < 128) = true) (lc2 : decide (c2.toNat < 128) = true) (lc3 : decide (c3.toNat < 128) = true) : ∀ b ∈ pl4m0 a1 a2 a3 c1 c2 c3 M (fd (D / 10)) (fd (D % 10)) (fd (Y / 1000)) (fd (Y / 100 % 10)) (fd (Y / 10 % 10)) (fd (Y % 10)) (fd (T / 10)) (fd (T % 10)) (fd (i / 10)) (fd (i % 10)) (fd (s / 10)) (fd (s % 10)), b = true := by
  obtain ⟨qY, qM, qD, qh, qi, qs, lo, hi, y0, y1, m0, m1, d0, d1, h0, h1, i0, i1, s0, s1, dOk, jOk, ns, fs⟩ := q
  have cY := four_fd (e := Y) (by omega) (by omega)
  have cD := two_fd (e := D) (by omega) (by omega)
  have ch := two_fd (e := T) (by omega) (by omega)
  have ci := two_fd (e := i) (by omega) (by omega)
  have cs := two_fd (e := s) (by omega) (by omega)
  have wT : Int.tmod T 12 = h := by rw [Int.tmod_eq_emod_of_nonneg (by omega)]; omega
  exact pl4m0_ok (by unfold ul4m0; exact (forall_cons (by rw [cD]; exact df (by omega)) (forall_cons (by rw [cD]; exact df (by omega)) (forall_cons (asc_ok (by simp only [List.all_cons, List.all_nil, dk_asc, la1, la2, la3, lc1, lc2, lc3, l32, l47, Bool.and_self]) (by decide) (by rfl)) (forall_cons (asc_ok (by simp only [List.all_cons, List.all_nil, dk_asc, la1, la2, la3, lc1, lc2, lc3, l32, l47, Bool.and_self]) (by decide) (by rfl)) (forall_cons (asc_ok (by simp only [List.all_cons, List.all_nil, dk_asc, la1, la2, la3, lc1, lc2, lc3, l32, l47, Bool.and_self]) (by decide) (by rfl)) (forall_cons (asc_ok (by simp only [List.all_cons, List.all_nil, dk_asc, la1, la2, la3, lc1, lc2, lc3, l32, l47, Bool.and_self]) (by decide) (by rfl)) (forall_cons (by rw [cY]; exact df (by omega)) (forall_cons (by rw [cY]; exact df (by omega)) (forall_cons (by rw [ch]; exact df (by omega)) (forall_cons (by rw [ch]; exact df (by omega)) (forall_cons (by rw [ci]; exact df (by omega)) (forall_cons (by rw [ci]; exact df (by omega)) (forall_cons (by rw [cs]; exact df (by omega)) (forall_cons (by rw [cs]; exact df (by omega)) (forall_cons (by rw [cY, cD]; exact dOk) (forall_cons (by rw [cY, cD, ch, ci, cs, wT]; exact jOk) (forall_cons (by rw [cY, cD, ch, ci, cs, wT, ns]; exact fs) forall_nil))))))))))))))))))

theorem px4m0_eq {n Y M D h i s : Int} (q : Of n Y M D h i s) (hh : h < 12) (T : Int) (hT : T = (h + 11) % 12 + 1) : px4m0 M (fd (D / 10)) (fd (D % 10)) (fd (Y / 1000)) (fd (Y / 100 % 10)) (fd (Y / 10 % 10)) (fd (Y % 10)) (fd (T / 10)) (fd (T % 10)) (fd (i / 10)) (fd (i % 10)) (fd (s / 10)) (fd (s % 10)) = Clk.fo n := by
  obtain ⟨qY, qM, qD, qh, qi, qs, lo, hi, y0, y1, m0, m1, d0, d1, h0, h1, i0, i1, s0, s1, dOk, jOk, ns, fs⟩ := q
  have cY := four_fd (e := Y) (by omega) (by omega)
  have cD := two_fd (e := D) (by omega) (by omega)
  have ch := two_fd (e := T) (by omega) (by omega)
  have ci := two_fd (e := i) (by omega) (by omega)
  have cs := two_fd (e := s) (by omega) (by omega)
  have wT : Int.tmod T 12 = h := by rw [Int.tmod_eq_emod_of_nonneg (by omega)]; omega
  unfold px4m0
  rw [cY, cD, ch, wT, ci, cs, ns]
  rfl

theorem pl4m1_all {n Y M D h i s : Int} (q : Of n Y M D h i s) (hh : 12 ≤ h) (T : Int) (hT : T = (h + 11) % 12 + 1) (a1 a2 a3 c1 c2 c3 : UInt8) (la1 : decide (a1.toNat < 128) = true) (la2 : decide (a2.toNat < 128) = true) (la3 : decide (a3.toNat < 128) = true) (lc1 : decide (c1.toNat < 128) = true) (lc2 : decide (c2.toNat < 128) = true) (lc3 : decide (c3.toNat < 128) = true) : ∀ b ∈ pl4m1 a1 a2 a3 c1 c2 c3 M (fd (D / 10)) (fd (D % 10)) (fd (Y / 1000)) (fd (Y / 100 % 10)) (fd (Y / 10 % 10)) (fd (Y % 10)) (fd (T / 10)) (fd (T % 10)) (fd (i / 10)) (fd (i % 10)) (fd (s / 10)) (fd (s % 10)), b = true := by
  obtain ⟨qY, qM, qD, qh, qi, qs, lo, hi, y0, y1, m0, m1, d0, d1, h0, h1, i0, i1, s0, s1, dOk, jOk, ns, fs⟩ := q
  have cY := four_fd (e := Y) (by omega) (by omega)
  have cD := two_fd (e := D) (by omega) (by omega)
  have ch := two_fd (e := T) (by omega) (by omega)
  have ci := two_fd (e := i) (by omega) (by omega)
  have cs := two_fd (e := s) (by omega) (by omega)
  have wT : IntKind.wrap IntKind.i64 ((Int.tmod T 12) + 12) = h := by rw [Int.tmod_eq_emod_of_nonneg (by omega), wrap_id _ (by omega) (by omega)]; omega
  exact pl4m1_ok (by unfold ul4m1; exact (forall_cons (by rw [cD]; exact df (by omega)) (forall_cons (by rw [cD]; exact df (by omega)) (forall_cons (asc_ok (by simp only [List.all_cons, List.all_nil, dk_asc, la1, la2, la3, lc1, lc2, lc3, l32, l47, Bool.and_self]) (by decide) (by rfl)) (forall_cons (asc_ok (by simp only [List.all_cons, List.all_nil, dk_asc, la1, la2, la3, lc1, lc2, lc3, l32, l47, Bool.and_self]) (by decide) (by rfl)) (forall_cons (asc_ok (by simp only [List.all_cons, List.all_nil, dk_asc, la1, la2, la3, lc1, lc2, lc3, l32, l47, Bool.and_self]) (by decide) (by rfl)) (forall_cons (asc_ok (by simp only [List.all_cons, List.all_nil, dk_asc, la1, la2, la3, lc1, lc2, lc3, l32, l47, Bool.and_self]) (by decide) (by rfl)) (forall_cons (by rw [cY]; exact df (by omega)) (forall_cons (by rw [cY]; exact df (by omega)) (forall_cons (by rw [ch]; exact df (by omega)) (forall_cons (by rw [ch]; exact df (by omega)) (forall_cons (by rw [ci]; exact df (by omega)) (forall_cons (by rw [ci]; exact df (by omega)) (forall_cons (by rw [cs]; exact df (by omega)) (forall_cons (by rw [cs]; exact df (by omega)) (forall_cons (by rw [cY, cD]; exact dOk) (forall_cons (by rw [cY, cD, ch, ci, cs, wT]; exact jOk) (forall_cons (by rw [cY, cD, ch, ci, cs, wT, ns]; exact fs) forall_nil))))))))))))))))))

theorem px4m1_eq {n Y M D h i s : Int} (q : Of n Y M D h i s) (hh : 12 ≤ h) (T : Int) (hT : T = (h + 11) % 12 + 1) : px4m1 M (fd (D / 10)) (fd (D % 10)) (fd (Y / 1000)) (fd (Y / 100 % 10)) (fd (Y / 10 % 10)) (fd (Y % 10)) (fd (T / 10)) (fd (T % 10)) (fd (i / 10)) (fd (i % 10)) (fd (s / 10)) (fd (s % 10)) = Clk.fo n := by
  obtain ⟨qY, qM, qD, qh, qi, qs, lo, hi, y0, y1, m0, m1, d0, d1, h0, h1, i0, i1, s0, s1, dOk, jOk, ns, fs⟩ := q
  have cY := four_fd (e := Y) (by omega) (by omega)
  have cD := two_fd (e := D) (by omega) (by omega)
  have ch := two_fd (e := T) (by omega) (by omega)
  have ci := two_fd (e := i) (by omega) (by omega)
  have cs := two_fd (e := s) (by omega) (by omega)
  have wT : IntKind.wrap IntKind.i64 ((Int.tmod T 12) + 12) = h := by rw [Int.tmod_eq_emod_of_nonneg (by omega), wrap_id _ (by omega) (by omega)]; omega
  unfold px4m1
  rw [cY, cD, ch, wT, ci, cs, ns]
  rfl

end Go.Proofs.YthopphfehgdocaaGreatDoor
