import Derived.Test.YthopphfehgdocaaGreatDoorOrd
import Derived.Test.YthopphfehgdocaaGreatDoorClk1
import Derived.Test.YthopphfehgdocaaGreatDoorRef6
import Derived.Test.YthopphfehgdocaaGreatDoorClk2
import Derived.Test.YthopphfehgdocaaGreatDoorRef4
set_option linter.unusedSimpArgs false
set_option linter.unusedVariables false
namespace Go.Proofs.YthopphfehgdocaaGreatDoor
open Go Go.RowKit Go.Ev Go.Proofs Go.Shelf
def jsecF (S : Nat) : Int := f2i .f64 (fround .down S)
theorem join_all (Y M D ho mi : Int) (S : Nat) (W J : Int) :
  rjoinOkF Y M D ho mi S W J = true ∧ cjoinOkF Y M D ho mi S W J = true ∧ rjoin0F Y M D ho mi S W J = cjoin0F Y M D ho mi S W J ∧ rjoin1F Y M D ho mi S W J = cjoin1F Y M D ho mi S W J ∧
  (cjoin1F Y M D ho mi S W J = 110 ∨ (cjoin1F Y M D ho mi S W J = 0 ∧ -377705116800 ≤ cjoin0F Y M D ho mi S W J ∧ cjoin0F Y M D ho mi S W J ≤ 253402300799 ∧ froundOk S = true ∧ f2iOk .f64 (fround .down S) .i64 = true ∧ (0 ≤ M → M ≤ 11 → cjoin0F Y M D ho mi S W J = secsOf Y M D ho mi (jsecF S)))) := by
 have a0 : decide (Y < -1000000000) = !(decide (Y ≥ -1000000000)) := by rw [← decide_not]; exact decide_eq_decide.2 (by omega)
 have b0 : decide (Y > 1000000000) = !(decide (Y ≤ 1000000000)) := by rw [← decide_not]; exact decide_eq_decide.2 (by omega)
 cases x0 : decide (Y ≥ -1000000000) with
 | false => rw [x0] at a0; refine ⟨?_, ?_, ?_, ?_, Or.inl ?_⟩ <;> simp only [rjoinOkF, cjoinOkF, rjoin0F, cjoin0F, rjoin1F, cjoin1F, a0, x0, Bool.not_true, Bool.not_false, cond_true, cond_false]
 | true =>
 rw [x0] at a0
 cases y0 : decide (Y ≤ 1000000000) with
 | false => rw [y0] at b0; refine ⟨?_, ?_, ?_, ?_, Or.inl ?_⟩ <;> simp only [rjoinOkF, cjoinOkF, rjoin0F, cjoin0F, rjoin1F, cjoin1F, a0, x0, b0, y0, Bool.not_true, Bool.not_false, cond_true, cond_false]
 | true =>
 rw [y0] at b0
 have a1 : decide (M < -1000000000) = !(decide (M ≥ -1000000000)) := by rw [← decide_not]; exact decide_eq_decide.2 (by omega)
 have b1 : decide (M > 1000000000) = !(decide (M ≤ 1000000000)) := by rw [← decide_not]; exact decide_eq_decide.2 (by omega)
 cases x1 : decide (M ≥ -1000000000) with
 | false => rw [x1] at a1; refine ⟨?_, ?_, ?_, ?_, Or.inl ?_⟩ <;> simp only [rjoinOkF, cjoinOkF, rjoin0F, cjoin0F, rjoin1F, cjoin1F, a0, x0, b0, y0, a1, x1, Bool.not_true, Bool.not_false, cond_true, cond_false]
 | true =>
 rw [x1] at a1
 cases y1 : decide (M ≤ 1000000000) with
 | false => rw [y1] at b1; refine ⟨?_, ?_, ?_, ?_, Or.inl ?_⟩ <;> simp only [rjoinOkF, cjoinOkF, rjoin0F, cjoin0F, rjoin1F, cjoin1F, a0, x0, b0, y0, a1, x1, b1, y1, Bool.not_true, Bool.not_false, cond_true, cond_false]
 | true =>
 rw [y1] at b1
 have a2 : decide (D < -1000000000) = !(decide (D ≥ -1000000000)) := by rw [← decide_not]; exact decide_eq_decide.2 (by omega)
 have b2 : decide (D > 1000000000) = !(decide (D ≤ 1000000000)) := by rw [← decide_not]; exact decide_eq_decide.2 (by omega)
 cases x2 : decide (D ≥ -1000000000) with
 | false => rw [x2] at a2; refine ⟨?_, ?_, ?_, ?_, Or.inl ?_⟩ <;> simp only [rjoinOkF, cjoinOkF, rjoin0F, cjoin0F, rjoin1F, cjoin1F, a0, x0, b0, y0, a1, x1, b1, y1, a2, x2, Bool.not_true, Bool.not_false, cond_true, cond_false]
 | true =>
 rw [x2] at a2
 cases y2 : decide (D ≤ 1000000000) with
 | false => rw [y2] at b2; refine ⟨?_, ?_, ?_, ?_, Or.inl ?_⟩ <;> simp only [rjoinOkF, cjoinOkF, rjoin0F, cjoin0F, rjoin1F, cjoin1F, a0, x0, b0, y0, a1, x1, b1, y1, a2, x2, b2, y2, Bool.not_true, Bool.not_false, cond_true, cond_false]
 | true =>
 rw [y2] at b2
 have a3 : decide (ho < -1000000000) = !(decide (ho ≥ -1000000000)) := by rw [← decide_not]; exact decide_eq_decide.2 (by omega)
 have b3 : decide (ho > 1000000000) = !(decide (ho ≤ 1000000000)) := by rw [← decide_not]; exact decide_eq_decide.2 (by omega)
 cases x3 : decide (ho ≥ -1000000000) with
 | false => rw [x3] at a3; refine ⟨?_, ?_, ?_, ?_, Or.inl ?_⟩ <;> simp only [rjoinOkF, cjoinOkF, rjoin0F, cjoin0F, rjoin1F, cjoin1F, a0, x0, b0, y0, a1, x1, b1, y1, a2, x2, b2, y2, a3, x3, Bool.not_true, Bool.not_false, cond_true, cond_false]
 | true =>
 rw [x3] at a3
 cases y3 : decide (ho ≤ 1000000000) with
 | false => rw [y3] at b3; refine ⟨?_, ?_, ?_, ?_, Or.inl ?_⟩ <;> simp only [rjoinOkF, cjoinOkF, rjoin0F, cjoin0F, rjoin1F, cjoin1F, a0, x0, b0, y0, a1, x1, b1, y1, a2, x2, b2, y2, a3, x3, b3, y3, Bool.not_true, Bool.not_false, cond_true, cond_false]
 | true =>
 rw [y3] at b3
 have a4 : decide (mi < -1000000000) = !(decide (mi ≥ -1000000000)) := by rw [← decide_not]; exact decide_eq_decide.2 (by omega)
 have b4 : decide (mi > 1000000000) = !(decide (mi ≤ 1000000000)) := by rw [← decide_not]; exact decide_eq_decide.2 (by omega)
 cases x4 : decide (mi ≥ -1000000000) with
 | false => rw [x4] at a4; refine ⟨?_, ?_, ?_, ?_, Or.inl ?_⟩ <;> simp only [rjoinOkF, cjoinOkF, rjoin0F, cjoin0F, rjoin1F, cjoin1F, a0, x0, b0, y0, a1, x1, b1, y1, a2, x2, b2, y2, a3, x3, b3, y3, a4, x4, Bool.not_true, Bool.not_false, cond_true, cond_false]
 | true =>
 rw [x4] at a4
 cases y4 : decide (mi ≤ 1000000000) with
 | false => rw [y4] at b4; refine ⟨?_, ?_, ?_, ?_, Or.inl ?_⟩ <;> simp only [rjoinOkF, cjoinOkF, rjoin0F, cjoin0F, rjoin1F, cjoin1F, a0, x0, b0, y0, a1, x1, b1, y1, a2, x2, b2, y2, a3, x3, b3, y3, a4, x4, b4, y4, Bool.not_true, Bool.not_false, cond_true, cond_false]
 | true =>
 rw [y4] at b4
 simp only [decide_eq_true_eq] at x0 x1 x2 x3 x4 y0 y1 y2 y3 y4
 have X0 : decide (Y ≥ -1000000000) = true := decide_eq_true x0
 have Y0 : decide (Y ≤ 1000000000) = true := decide_eq_true y0
 have X1 : decide (M ≥ -1000000000) = true := decide_eq_true x1
 have Y1 : decide (M ≤ 1000000000) = true := decide_eq_true y1
 have X2 : decide (D ≥ -1000000000) = true := decide_eq_true x2
 have Y2 : decide (D ≤ 1000000000) = true := decide_eq_true y2
 have X3 : decide (ho ≥ -1000000000) = true := decide_eq_true x3
 have Y3 : decide (ho ≤ 1000000000) = true := decide_eq_true y3
 have X4 : decide (mi ≥ -1000000000) = true := decide_eq_true x4
 have Y4 : decide (mi ≤ 1000000000) = true := decide_eq_true y4
 have w0 : IntKind.i64.wrap (Y + IntKind.i64.wrap (M / 12)) = Y + M / 12 := by
  rw [wrap_id (M / 12) (by omega) (by omega)]
  exact wrap_id _ (by omega) (by omega)
 have hs := Clk.sec_rej S
 have hi := Clk.sec_in S
 rw [← Clk.absW_eq S] at hs hi
 change ((FloatKind.f64.format.order S S != some Ordering.eq) || (FloatKind.f64.format.order _ 4741671816366391296 == some Ordering.gt)) = !(((FloatKind.f64.format.order S 13965043853221167104 == some Ordering.gt) || (FloatKind.f64.format.order S 13965043853221167104 == some Ordering.eq)) && ((FloatKind.f64.format.order S 4741671816366391296 == some Ordering.lt) || (FloatKind.f64.format.order S 4741671816366391296 == some Ordering.eq))) at hs
 change ((FloatKind.f64.format.order S S != some Ordering.eq) || (FloatKind.f64.format.order _ 4741671816366391296 == some Ordering.gt)) = false → _ at hi
 have cy : decide (Y + M / 12 < -9999) = !(decide (Y + M / 12 ≥ -9999)) := by rw [← decide_not]; exact decide_eq_decide.2 (by omega)
 have dy : decide (Y + M / 12 > 9999) = !(decide (Y + M / 12 ≤ 9999)) := by rw [← decide_not]; exact decide_eq_decide.2 (by omega)
 generalize hr1 : ((FloatKind.f64.format.order S 13965043853221167104 == some Ordering.gt) || (FloatKind.f64.format.order S 13965043853221167104 == some Ordering.eq)) = r1 at hs
 generalize hr2 : ((FloatKind.f64.format.order S 4741671816366391296 == some Ordering.lt) || (FloatKind.f64.format.order S 4741671816366391296 == some Ordering.eq)) = r2 at hs
 generalize hp : (FloatKind.f64.format.order S S != some Ordering.eq) = p at hs hi
 generalize hq : (FloatKind.f64.format.order _ 4741671816366391296 == some Ordering.gt) = q at hs hi
 have e1 : ∀ b : Bool, (bif b then (110 : Int) else 110) = 110 := fun b => by cases b <;> rfl
 have e0 : ∀ b : Bool, (bif b then (0 : Int) else 0) = 0 := fun b => by cases b <;> rfl
 have eT : ∀ b : Bool, (bif b then true else true) = true := fun b => by cases b <;> rfl
 cases hpq : (p || q) with
 | true =>
  rw [hpq] at hs
  cases p <;> cases q <;> cases r1 <;> cases r2 <;> first | (exact absurd hpq (by decide)) | (exact absurd hs (by decide)) | skip
  all_goals
   refine ⟨?_, ?_, ?_, ?_, Or.inl ?_⟩ <;> simp only [rjoinOkF, cjoinOkF, rjoin0F, cjoin0F, rjoin1F, cjoin1F, a0, X0, b0, Y0, a1, X1, b1, Y1, a2, X2, b2, Y2, a3, X3, b3, Y3, a4, X4, b4, Y4, w0, hp, hq, hr1, hr2, e1, e0, eT, Bool.not_true, Bool.not_false, cond_true, cond_false]
 | false =>
 replace hi := hi hpq
 rw [hpq] at hs
 have hp0 : p = false := by cases p <;> first | rfl | exact absurd hpq (by cases q <;> decide)
 have hq0 : q = false := by cases q <;> first | rfl | exact absurd hpq (by cases p <;> decide)
 have h10 : r1 = true := by cases r1 <;> first | rfl | exact absurd hs (by cases r2 <;> decide)
 have h20 : r2 = true := by cases r2 <;> first | rfl | exact absurd hs (by cases r1 <;> decide)
 subst hp0 hq0 h10 h20
 cases cx : decide (Y + M / 12 ≥ -9999) with
 | false =>
  rw [cx] at cy
  refine ⟨?_, ?_, ?_, ?_, Or.inl ?_⟩ <;> simp only [rjoinOkF, cjoinOkF, rjoin0F, cjoin0F, rjoin1F, cjoin1F, a0, X0, b0, Y0, a1, X1, b1, Y1, a2, X2, b2, Y2, a3, X3, b3, Y3, a4, X4, b4, Y4, w0, hp, hq, hr1, hr2, cx, cy, Bool.not_true, Bool.not_false, cond_true, cond_false]
 | true =>
 rw [cx] at cy
 cases dx : decide (Y + M / 12 ≤ 9999) with
 | false =>
  rw [dx] at dy
  refine ⟨?_, ?_, ?_, ?_, Or.inl ?_⟩ <;> simp only [rjoinOkF, cjoinOkF, rjoin0F, cjoin0F, rjoin1F, cjoin1F, a0, X0, b0, Y0, a1, X1, b1, Y1, a2, X2, b2, Y2, a3, X3, b3, Y3, a4, X4, b4, Y4, w0, hp, hq, hr1, hr2, cx, cy, dx, dy, Bool.not_true, Bool.not_false, cond_true, cond_false]
 | true =>
 rw [dx] at dy
 obtain ⟨f1, f2, f3, f4⟩ := hi
 have cx' := of_decide_eq_true cx
 have dx' := of_decide_eq_true dx
 have ny : numOkF (Y + M / 12) (M % 12) 1 = true := by
  unfold numOkF
  simp only [Bool.and_eq_true, decide_eq_true_eq]
  omega
 have by' : beginOkF (Y + M / 12) (M % 12) = true := by
  unfold beginOkF
  simp only [Bool.and_eq_true, decide_eq_true_eq]
  omega
 have nr : -4400000 ≤ Clk.number (Y + M / 12) (M % 12) 1 ∧ Clk.number (Y + M / 12) (M % 12) 1 ≤ 3000000 := by
  generalize Y + M / 12 = y at cx' dx'
  have m1 : 0 ≤ M % 12 := by omega
  have m2 : M % 12 ≤ 11 := by omega
  generalize M % 12 = m at m1 m2
  unfold Clk.number; simp only; omega
 have e : numdF (Y + M / 12) (M % 12) 1 = Clk.number (Y + M / 12) (M % 12) 1 := rfl
 have e2 : numF (Y + M / 12) (M % 12) = Clk.number (Y + M / 12) (M % 12) 1 := rfl
 have hn : ∃ N, Clk.number (Y + M / 12) (M % 12) 1 = N := ⟨_, rfl⟩
 obtain ⟨N, hN⟩ := hn
 rw [hN] at nr e e2
 have hj : ∃ sc, f2i .f64 (fround .down S) = sc := ⟨_, rfl⟩
 obtain ⟨sc, hsc⟩ := hj
 rw [hsc] at f3 f4
 have w1 : IntKind.i64.wrap (N + D) = N + D := wrap_id _ (by omega) (by omega)
 have w2 : IntKind.i64.wrap (N + D - 1) = N + D - 1 := wrap_id _ (by omega) (by omega)
 have w3 : IntKind.i64.wrap ((N + D - 1) * 86400) = (N + D - 1) * 86400 := wrap_id _ (by omega) (by omega)
 have w4 : IntKind.i64.wrap (ho * 3600) = ho * 3600 := wrap_id _ (by omega) (by omega)
 have w5 : IntKind.i64.wrap (mi * 60) = mi * 60 := wrap_id _ (by omega) (by omega)
 have w6 : IntKind.i64.wrap ((N + D - 1) * 86400 + ho * 3600) = (N + D - 1) * 86400 + ho * 3600 := wrap_id _ (by omega) (by omega)
 have w7 : IntKind.i64.wrap ((N + D - 1) * 86400 + ho * 3600 + mi * 60) = (N + D - 1) * 86400 + ho * 3600 + mi * 60 := wrap_id _ (by omega) (by omega)
 have w8 : IntKind.i64.wrap ((N + D - 1) * 86400 + ho * 3600 + mi * 60 + sc) = (N + D - 1) * 86400 + ho * 3600 + mi * 60 + sc := wrap_id _ (by omega) (by omega)
 have hT : 0 ≤ M → M ≤ 11 → (N + D - 1) * 86400 + ho * 3600 + mi * 60 + sc = secsOf Y M D ho mi (jsecF S) := by
  intro m1 m2
  have q1 : M / 12 = 0 := by omega
  have q2 : M % 12 = M := by omega
  rw [q1, q2, Int.add_zero] at hN
  have nd : Clk.number Y M 1 + D - 1 = Clk.number Y M D := Clk.number_day Y M D
  unfold secsOf jsecF
  rw [hsc, ← nd, hN]
 generalize hTT : (N + D - 1) * 86400 + ho * 3600 + mi * 60 + sc = T at w8 hT
 have w9 : IntKind.i64.wrap (T / 86400) = T / 86400 := wrap_id _ (by omega) (by omega)
 cases g1 : decide (T / 86400 < -4371587) with
 | true =>
  refine ⟨?_, ?_, ?_, ?_, Or.inl ?_⟩ <;> simp only [rjoinOkF, cjoinOkF, rjoin0F, cjoin0F, rjoin1F, cjoin1F, a0, X0, b0, Y0, a1, X1, b1, Y1, a2, X2, b2, Y2, a3, X3, b3, Y3, a4, X4, b4, Y4, w0, hp, hq, hr1, hr2, cx, cy, dx, dy, ny, by', e, e2, hsc, w1, w2, w3, w4, w5, w6, w7, hTT, w8, w9, g1, f1, f2, Bool.and_self, Bool.not_true, Bool.not_false, cond_true, cond_false]
 | false =>
 cases g2 : decide (T / 86400 > 2932896) with
 | true =>
  refine ⟨?_, ?_, ?_, ?_, Or.inl ?_⟩ <;> simp only [rjoinOkF, cjoinOkF, rjoin0F, cjoin0F, rjoin1F, cjoin1F, a0, X0, b0, Y0, a1, X1, b1, Y1, a2, X2, b2, Y2, a3, X3, b3, Y3, a4, X4, b4, Y4, w0, hp, hq, hr1, hr2, cx, cy, dx, dy, ny, by', e, e2, hsc, w1, w2, w3, w4, w5, w6, w7, hTT, w8, w9, g1, g2, f1, f2, Bool.and_self, Bool.not_true, Bool.not_false, cond_true, cond_false]
 | false =>
 have hV : cjoin0F Y M D ho mi S W J = T := by simp only [rjoinOkF, cjoinOkF, rjoin0F, cjoin0F, rjoin1F, cjoin1F, a0, X0, b0, Y0, a1, X1, b1, Y1, a2, X2, b2, Y2, a3, X3, b3, Y3, a4, X4, b4, Y4, w0, hp, hq, hr1, hr2, cx, cy, dx, dy, ny, by', e, e2, hsc, w1, w2, w3, w4, w5, w6, w7, hTT, w8, w9, g1, g2, f1, f2, Bool.and_self, Bool.not_true, Bool.not_false, cond_true, cond_false]
 refine ⟨?_, ?_, ?_, ?_, Or.inr ⟨?_, ?_, ?_, f1, f2, ?_⟩⟩
 ·simp only [rjoinOkF, cjoinOkF, rjoin0F, cjoin0F, rjoin1F, cjoin1F, a0, X0, b0, Y0, a1, X1, b1, Y1, a2, X2, b2, Y2, a3, X3, b3, Y3, a4, X4, b4, Y4, w0, hp, hq, hr1, hr2, cx, cy, dx, dy, ny, by', e, e2, hsc, w1, w2, w3, w4, w5, w6, w7, hTT, w8, w9, g1, g2, f1, f2, Bool.and_self, Bool.not_true, Bool.not_false, cond_true, cond_false]
 ·simp only [rjoinOkF, cjoinOkF, rjoin0F, cjoin0F, rjoin1F, cjoin1F, a0, X0, b0, Y0, a1, X1, b1, Y1, a2, X2, b2, Y2, a3, X3, b3, Y3, a4, X4, b4, Y4, w0, hp, hq, hr1, hr2, cx, cy, dx, dy, ny, by', e, e2, hsc, w1, w2, w3, w4, w5, w6, w7, hTT, w8, w9, g1, g2, f1, f2, Bool.and_self, Bool.not_true, Bool.not_false, cond_true, cond_false]
 ·simp only [rjoinOkF, cjoinOkF, rjoin0F, cjoin0F, rjoin1F, cjoin1F, a0, X0, b0, Y0, a1, X1, b1, Y1, a2, X2, b2, Y2, a3, X3, b3, Y3, a4, X4, b4, Y4, w0, hp, hq, hr1, hr2, cx, cy, dx, dy, ny, by', e, e2, hsc, w1, w2, w3, w4, w5, w6, w7, hTT, w8, w9, g1, g2, f1, f2, Bool.and_self, Bool.not_true, Bool.not_false, cond_true, cond_false]
 ·simp only [rjoinOkF, cjoinOkF, rjoin0F, cjoin0F, rjoin1F, cjoin1F, a0, X0, b0, Y0, a1, X1, b1, Y1, a2, X2, b2, Y2, a3, X3, b3, Y3, a4, X4, b4, Y4, w0, hp, hq, hr1, hr2, cx, cy, dx, dy, ny, by', e, e2, hsc, w1, w2, w3, w4, w5, w6, w7, hTT, w8, w9, g1, g2, f1, f2, Bool.and_self, Bool.not_true, Bool.not_false, cond_true, cond_false]
 ·simp only [rjoinOkF, cjoinOkF, rjoin0F, cjoin0F, rjoin1F, cjoin1F, a0, X0, b0, Y0, a1, X1, b1, Y1, a2, X2, b2, Y2, a3, X3, b3, Y3, a4, X4, b4, Y4, w0, hp, hq, hr1, hr2, cx, cy, dx, dy, ny, by', e, e2, hsc, w1, w2, w3, w4, w5, w6, w7, hTT, w8, w9, g1, g2, f1, f2, Bool.and_self, Bool.not_true, Bool.not_false, cond_true, cond_false]
 ·rw [hV]
  have := of_decide_eq_false g1
  omega
 ·rw [hV]
  have := of_decide_eq_false g2
  omega
 ·rw [hV]; exact hT
theorem tmod_zero (y k : Int) : (Int.tmod y k == 0) = decide (y % k = 0) := by
 rw [Bool.eq_iff_iff, beq_iff_eq, decide_eq_true_eq, ← Int.dvd_iff_tmod_eq_zero, Int.dvd_iff_emod_eq_zero]
theorem leap_Z (y : Int) : ((bif leapF y then (1 : Int) else 0) = 1 ∧ y % 4 = 0 ∧ (y % 100 ≠ 0 ∨ y % 400 = 0)) ∨ ((bif leapF y then (1 : Int) else 0) = 0 ∧ ¬ (y % 4 = 0 ∧ (y % 100 ≠ 0 ∨ y % 400 = 0))) := by
 have e : leapF y = true ↔ (y % 4 = 0 ∧ (y % 100 ≠ 0 ∨ y % 400 = 0)) := by
  unfold leapF
  unfold bne
  rw [tmod_zero, tmod_zero, tmod_zero]
  simp
 cases hl : leapF y with
 | true => exact .inl ⟨rfl, e.1 hl⟩
 | false => exact .inr ⟨rfl, fun q => by rw [e.2 q] at hl; cases hl⟩
theorem len_Z (n : Int) : Clk.dateDay n ≤ lenF (Clk.dateYear n) (Clk.dateMonth n) := by
 have r := Clk.date_ranges n
 rw [(cumJ_cum (Clk.dateYear n) (Clk.dateMonth n) (by omega) (by omega)).2]
 exact Clk.day_len n _ (leap_Z _)
theorem cday_date (d : Int) (h1 : -4371587 ≤ d) (h2 : d ≤ 2932896) : cday0F (Clk.dateYear d) (Clk.dateMonth d) (Clk.dateDay d) = d := by
 have yr := Clk.dateYear_range d h1 h2
 have r := Clk.date_ranges d
 have l := len_Z d
 have c1 : decide (Clk.dateYear d < -9999) = false := decide_eq_false (by omega)
 have c2 : decide (Clk.dateYear d > 9999) = false := decide_eq_false (by omega)
 have c3 : decide (Clk.dateDay d < 1) = false := decide_eq_false (by omega)
 have c4 : decide (Clk.dateDay d > lenF (Clk.dateYear d) (Clk.dateMonth d)) = false := decide_eq_false (by omega)
 simp only [cday0F, c1, c2, c3, c4, cond_false, numdF, Clk.number_date]
structure TimeOf (Y M D ho mi : Int) (S : Nat) (n : Int) : Prop where
 n1 : -377705116800 ≤ n
 n2 : n ≤ 253402300799
 y : Y = Clk.dateYear (n / 86400)
 m : M = Clk.dateMonth (n / 86400)
 d : D = Clk.dateDay (n / 86400)
 h : ho = n % 86400 / 3600
 i : mi = n % 3600 / 60
 s : jsecF S = n % 60
 f1 : froundOk S = true
 f2 : f2iOk .f64 (fround .down S) .i64 = true
structure NormOf (Y M D ho mi : Int) (S : Nat) (W J n : Int) : Prop where
 v0 : norm0F Y M D ho mi S W J = Y
 v1 : norm1F Y M D ho mi S W J = M
 v2 : norm2F Y M D ho mi S W J = D
 v3 : norm3F Y M D ho mi S W J = ho
 v4 : norm4F Y M D ho mi S W J = mi
 v5 : norm5F Y M D ho mi S W J = Clk.fo (n % 60)
 v6 : norm6F Y M D ho mi S W J = wdF (n / 86400)
 v7 : norm7F Y M D ho mi S W J = n / 86400 - Clk.number Y 0 1
 v8 : norm8F Y M D ho mi S W J = n
 v9 : norm9F Y M D ho mi S W J = cwks0F (n / 86400)
 v10 : norm10F Y M D ho mi S W J = cwks1F (n / 86400)
 v11 : norm11F Y M D ho mi S W J = cwks2F (n / 86400)
 v12 : norm12F Y M D ho mi S W J = cwks3F (n / 86400)
 v13 : norm13F Y M D ho mi S W J = true
 w0 : whol0F Y M D ho mi S W J = n
 w1 : whol1F Y M D ho mi S W J = true
theorem norm_all (Y M D ho mi : Int) (S : Nat) (W J : Int) :
  normOkF Y M D ho mi S W J = true ∧ wholOkF Y M D ho mi S W J = true ∧ ((norm13F Y M D ho mi S W J = false ∧ whol1F Y M D ho mi S W J = false) ∨ ∃ n, TimeOf Y M D ho mi S n ∧ NormOf Y M D ho mi S W J n) := by
 obtain ⟨r1, c1, e0, e1, h⟩ := join_all Y M D ho mi S W J
 have k0 : ((0 : Int) != 0) = false := rfl
 have k110 : ((110 : Int) != 0) = true := rfl
 rcases h with h | ⟨h, n1, n2, f1, f2, hn⟩
 ·refine ⟨?_, ?_, Or.inl ⟨?_, ?_⟩⟩ <;> simp only [nrmT, normOkF, wholOkF, norm13F, whol1F, c1, r1, e1, h, k110, cond_true, Bool.and_self]
 obtain ⟨n, hc0⟩ : ∃ n, cjoin0F Y M D ho mi S W J = n := ⟨_, rfl⟩
 rw [hc0] at e0 n1 n2 hn
 rw [h] at e1
 have nf := Clk.near_fo n
 obtain ⟨s1, s2, s3, s4, s5, s6, s7, s8, s9, s10⟩ := csplit_val n n1 n2
 obtain ⟨t1, t2, t3, t4, t5, t6, t7, t8, t9, t10⟩ := rsplit_val n n1 n2
 have d1 : -4371587 ≤ n / 86400 := by omega
 have d2 : n / 86400 ≤ 2932896 := by omega
 have r := Clk.date_ranges (n / 86400)
 cases g0 : (Clk.dateYear (n / 86400) != Y) with
 | true => refine ⟨?_, ?_, Or.inl ⟨?_, ?_⟩⟩ <;> simp only [nrmT, normOkF, wholOkF, norm13F, whol1F, c1, r1, hc0, e0, e1, h, k0, nf, f1, s1, s2, s3, s4, s5, s6, s7, s8, s9, s10, t1, t2, t3, t4, t5, t6, t7, t8, t9, t10, g0, cond_true, cond_false, Bool.and_self, Bool.true_and, Bool.and_true, Bool.not_false]
 | false =>
 cases g1 : (Clk.dateMonth (n / 86400) != M) with
 | true => refine ⟨?_, ?_, Or.inl ⟨?_, ?_⟩⟩ <;> simp only [nrmT, normOkF, wholOkF, norm13F, whol1F, c1, r1, hc0, e0, e1, h, k0, nf, f1, s1, s2, s3, s4, s5, s6, s7, s8, s9, s10, t1, t2, t3, t4, t5, t6, t7, t8, t9, t10, g0, g1, cond_true, cond_false, Bool.and_self, Bool.true_and, Bool.and_true, Bool.not_false]
 | false =>
 cases g2 : (Clk.dateDay (n / 86400) != D) with
 | true => refine ⟨?_, ?_, Or.inl ⟨?_, ?_⟩⟩ <;> simp only [nrmT, normOkF, wholOkF, norm13F, whol1F, c1, r1, hc0, e0, e1, h, k0, nf, f1, s1, s2, s3, s4, s5, s6, s7, s8, s9, s10, t1, t2, t3, t4, t5, t6, t7, t8, t9, t10, g0, g1, g2, cond_true, cond_false, Bool.and_self, Bool.true_and, Bool.and_true, Bool.not_false]
 | false =>
 cases g3 : (n % 86400 / 3600 != ho) with
 | true => refine ⟨?_, ?_, Or.inl ⟨?_, ?_⟩⟩ <;> simp only [nrmT, normOkF, wholOkF, norm13F, whol1F, c1, r1, hc0, e0, e1, h, k0, nf, f1, s1, s2, s3, s4, s5, s6, s7, s8, s9, s10, t1, t2, t3, t4, t5, t6, t7, t8, t9, t10, g0, g1, g2, g3, cond_true, cond_false, Bool.and_self, Bool.true_and, Bool.and_true, Bool.not_false]
 | false =>
 cases g4 : (n % 3600 / 60 != mi) with
 | true => refine ⟨?_, ?_, Or.inl ⟨?_, ?_⟩⟩ <;> simp only [nrmT, normOkF, wholOkF, norm13F, whol1F, c1, r1, hc0, e0, e1, h, k0, nf, f1, s1, s2, s3, s4, s5, s6, s7, s8, s9, s10, t1, t2, t3, t4, t5, t6, t7, t8, t9, t10, g0, g1, g2, g3, g4, cond_true, cond_false, Bool.and_self, Bool.true_and, Bool.and_true, Bool.not_false]
 | false =>
 cases g5 : (FloatKind.f64.format.order (Clk.fo (n % 60)) (fround .down S) != some Ordering.eq) with
 | true => refine ⟨?_, ?_, Or.inl ⟨?_, ?_⟩⟩ <;> simp only [nrmT, normOkF, wholOkF, norm13F, whol1F, c1, r1, hc0, e0, e1, h, k0, nf, f1, s1, s2, s3, s4, s5, s6, s7, s8, s9, s10, t1, t2, t3, t4, t5, t6, t7, t8, t9, t10, g0, g1, g2, g3, g4, g5, cond_true, cond_false, Bool.and_self, Bool.true_and, Bool.and_true, Bool.not_false]
 | false =>
 have q0 := g0
 have q1 := g1
 have q2 := g2
 have q3 := g3
 have q4 := g4
 simp only [bne_eq_false_iff_eq] at q0 q1 q2 q3 q4
 have hs : jsecF S = n % 60 := by
  have e := hn (by omega) (by omega)
  have b := secs_back n
  rw [q0, q1, q2, q3, q4] at b
  unfold secsOf at e b
  omega
 have cd : cday0F (Clk.dateYear (n / 86400)) (Clk.dateMonth (n / 86400)) (Clk.dateDay (n / 86400)) = n / 86400 := cday_date _ d1 d2
 have cdo : cdayOkF (Clk.dateYear (n / 86400)) (Clk.dateMonth (n / 86400)) (Clk.dateDay (n / 86400)) = true := cdayOk_all (by omega) (by omega) (by omega)
 have cw := cwksOk_all (n / 86400)
 refine ⟨?_, ?_, Or.inr ⟨n, ⟨n1, n2, q0.symm, q1.symm, q2.symm, q3.symm, q4.symm, hs, f1, f2⟩, ⟨?_, ?_, ?_, ?_, ?_, ?_, ?_, ?_, ?_, ?_, ?_, ?_, ?_, ?_, ?_, ?_⟩⟩⟩
 all_goals simp only [nrmT, normOkF, wholOkF, norm0F, norm1F, norm2F, norm3F, norm4F, norm5F, norm6F, norm7F, norm8F, norm9F, norm10F, norm11F, norm12F, norm13F, whol0F, whol1F, c1, r1, hc0, e0, e1, h, k0, nf, f1, s1, s2, s3, s4, s5, s6, s7, s8, s9, s10, t1, t2, t3, t4, t5, t6, t7, t8, t9, t10, g0, g1, g2, g3, g4, g5, cd, cdo, cw, cond_true, cond_false, Bool.and_self, Bool.true_and, Bool.and_true, Bool.not_false]
 all_goals first | exact q0 | exact q1 | exact q2 | exact q3 | exact q4 | (rw [q0])
theorem num_next (y : Int) : Clk.number y 0 1 + 365 ≤ Clk.number (y + 1) 0 1 ∧ Clk.number (y + 1) 0 1 ≤ Clk.number y 0 1 + 366 := by
 unfold Clk.number
 simp only [show (0 : Int) < 2 by decide, if_true]
 omega
theorem num_first (y m d : Int) (m0 : 0 ≤ m) (m1 : m ≤ 11) (d0 : 1 ≤ d) (d1 : d ≤ 31) : Clk.number y 0 1 ≤ Clk.number y m d ∧ Clk.number y m d ≤ Clk.number y 0 1 + 400 := by
 unfold Clk.number
 simp only [show (0 : Int) < 2 by decide, if_true, show (153 * ((0 + 10) % 12 : Int) + 2) / 5 = 306 by decide]
 by_cases hm : m < 2
 ·simp only [hm, if_true]
  have : m = 0 ∨ m = 1 := by omega
  rcases this with rfl | rfl
  ·rw [show (153 * ((0 + 10) % 12 : Int) + 2) / 5 = 306 by decide]; omega
  ·rw [show (153 * ((1 + 10) % 12 : Int) + 2) / 5 = 337 by decide]; omega
 ·simp only [hm, if_false]
  have hk : 0 ≤ (153 * ((m + 10) % 12) + 2) / 5 ∧ (153 * ((m + 10) % 12) + 2) / 5 ≤ 275 := by
   have : (m + 10) % 12 = m - 2 := by omega
   rw [this]
   omega
  generalize (153 * ((m + 10) % 12) + 2) / 5 = k at hk
  by_cases hy : y % 400 = 0
  ·have e1 : (y - 1) / 400 = y / 400 - 1 := by omega
   have e2 : (y - 1) % 400 = 399 := by omega
   rw [e1, e2, hy]
   omega
  ·have e1 : (y - 1) / 400 = y / 400 := by omega
   have e2 : (y - 1) % 400 = y % 400 - 1 := by omega
   have e3 : 0 ≤ y % 400 ∧ y % 400 ≤ 399 := by omega
   rw [e1, e2]
   generalize y % 400 = r at hy e3
   omega
theorem day_first (d : Int) : Clk.number (Clk.dateYear d) 0 1 ≤ d ∧ d ≤ Clk.number (Clk.dateYear d) 0 1 + 400 := by
 have r := Clk.date_ranges d
 have := num_first (Clk.dateYear d) (Clk.dateMonth d) (Clk.dateDay d) (by omega) (by omega) (by omega) (by omega)
 rwa [Clk.number_date] at this
structure WeeksOf (d : Int) : Prop where
 e0 : cwks0F d = rwks0F d
 e1 : cwks1F d = rwks1F d
 e2 : cwks2F d = rwks2F d
 e3 : cwks3F d = rwks3F d
 ok : rwksOkF d = true
 a0 : -10000 ≤ rwks0F d
 b0 : rwks0F d ≤ 10000
 a1 : 0 ≤ rwks1F d
 b1 : rwks1F d ≤ 1000
 a2 : 0 ≤ rwks2F d
 b2 : rwks2F d ≤ 1000
 a3 : 0 ≤ rwks3F d
 b3 : rwks3F d ≤ 1000
set_option maxHeartbeats 1000000 in
theorem weeks_all (d : Int) (h1 : -4371587 ≤ d) (h2 : d ≤ 2932896) : WeeksOf d := by
 obtain ⟨re, ry, _, _⟩ := rd_in h1 h2
 have yr := Clk.dateYear_range d h1 h2
 have df := day_first d
 have k0 : ((0 : Int) != 0) = false := rfl
 generalize Clk.dateYear d = y at ry yr df
 have nA := num_next y
 have nC := num_next (y - 1)
 rw [Int.sub_add_cancel] at nC
 have eA : numdF y 0 1 = Clk.number y 0 1 := rfl
 have eB : numdF (y + 1) 0 1 = Clk.number (y + 1) 0 1 := rfl
 have eC : numdF (y - 1) 0 1 = Clk.number (y - 1) 0 1 := rfl
 have fA : numF y 0 = Clk.number y 0 1 := rfl
 have fB : numF (y + 1) 0 = Clk.number (y + 1) 0 1 := rfl
 have fC : numF (y - 1) 0 = Clk.number (y - 1) 0 1 := rfl
 generalize Clk.number y 0 1 = A at df nA nC eA fA
 generalize Clk.number (y + 1) 0 1 = B at nA eB fB
 generalize Clk.number (y - 1) 0 1 = C at nC eC fC
 have w1 : IntKind.i64.wrap (d + 4) = d + 4 := wrap_id _ (by omega) (by omega)
 have hw : wdF d = (d + 4) % 7 := by unfold wdF; rw [w1]
 have w2 : IntKind.i64.wrap ((d + 4) % 7 + 6) = (d + 4) % 7 + 6 := wrap_id _ (by omega) (by omega)
 have hu : Int.tmod ((d + 4) % 7 + 6) 7 = (d + 3) % 7 := by rw [Int.tmod_eq_emod_of_nonneg (by omega)]; omega
 have w3 : IntKind.i64.wrap (d + 3) = d + 3 := wrap_id _ (by omega) (by omega)
 have hv : ∃ u, (d + 3) % 7 = u ∧ 0 ≤ u ∧ u ≤ 6 := ⟨_, rfl, by omega, by omega⟩
 obtain ⟨u, hu2, u0, u1⟩ := hv
 have hx : ∃ v, (d + 4) % 7 = v ∧ 0 ≤ v ∧ v ≤ 6 := ⟨_, rfl, by omega, by omega⟩
 obtain ⟨v, hv2, v0, v1⟩ := hx
 rw [hu2] at hu
 rw [hv2] at hw w2 hu
 have w4 : IntKind.i64.wrap (d - u) = d - u := wrap_id _ (by omega) (by omega)
 have w5 : IntKind.i64.wrap (d - u + 3) = d - u + 3 := wrap_id _ (by omega) (by omega)
 have w6 : IntKind.i64.wrap (y + 1) = y + 1 := wrap_id _ (by omega) (by omega)
 have w7 : IntKind.i64.wrap (y - 1) = y - 1 := wrap_id _ (by omega) (by omega)
 have w8 : IntKind.i64.wrap (d - A) = d - A := wrap_id _ (by omega) (by omega)
 have w9 : IntKind.i64.wrap (d - A + 7) = d - A + 7 := wrap_id _ (by omega) (by omega)
 have w10 : IntKind.i64.wrap (d - A + 7 - v) = d - A + 7 - v := wrap_id _ (by omega) (by omega)
 have w11 : IntKind.i64.wrap (d - A + 7 - u) = d - A + 7 - u := wrap_id _ (by omega) (by omega)
 have t1 : Int.tdiv (d - A + 7 - v) 7 = (d - A + 7 - v) / 7 := Int.tdiv_eq_ediv_of_nonneg (by omega)
 have t2 : Int.tdiv (d - A + 7 - u) 7 = (d - A + 7 - u) / 7 := Int.tdiv_eq_ediv_of_nonneg (by omega)
 have w12 : IntKind.i64.wrap ((d - A + 7 - v) / 7) = (d - A + 7 - v) / 7 := wrap_id _ (by omega) (by omega)
 have w13 : IntKind.i64.wrap ((d - A + 7 - u) / 7) = (d - A + 7 - u) / 7 := wrap_id _ (by omega) (by omega)
 have by0 : beginOkF y 0 = true := by unfold beginOkF; simp only [Bool.and_eq_true, decide_eq_true_eq]; omega
 have by1 : beginOkF (y + 1) 0 = true := by unfold beginOkF; simp only [Bool.and_eq_true, decide_eq_true_eq]; omega
 have by2 : beginOkF (y - 1) 0 = true := by unfold beginOkF; simp only [Bool.and_eq_true, decide_eq_true_eq]; omega
 have hz : ∀ z : Int, 0 ≤ z → z ≤ 3000 → IntKind.i64.wrap z = z ∧ Int.tdiv z 7 = z / 7 ∧ IntKind.i64.wrap (z / 7) = z / 7 ∧ IntKind.i64.wrap (z / 7 + 1) = z / 7 + 1 := fun z a b => ⟨wrap_id _ (by omega) (by omega), Int.tdiv_eq_ediv_of_nonneg a, wrap_id _ (by omega) (by omega), wrap_id _ (by omega) (by omega)⟩
 by_cases c1 : d - u + 3 < A
 ·have x1 : decide (d - u + 3 < A) = true := decide_eq_true c1
  have x2 : decide (d - u + 3 ≥ B) = false := decide_eq_false (by omega)
  obtain ⟨z1, z2, z3, z4⟩ := hz (d - u + 3 - C) (by omega) (by omega)
  refine ⟨?_, ?_, ?_, ?_, ?_, ?_, ?_, ?_, ?_, ?_, ?_, ?_, ?_⟩ <;> simp only [cth, rth, cwks0F, cwks1F, cwks2F, cwks3F, rwks0F, rwks1F, rwks2F, rwks3F, rwksOkF, re, ry, k0, eA, eB, eC, fA, fB, fC, hw, hv2, hu, hu2, w1, w2, w3, w4, w5, w6, w7, w8, w9, w10, w11, w12, w13, t1, t2, by0, by1, by2, x1, x2, z1, z2, z3, z4, cond_true, cond_false, Bool.and_self, Bool.and_true, Bool.not_false]
  all_goals (clear w1 w2 w3 w4 w5 w6 w7 w8 w9 w10 w11 w12 w13 t1 t2 z1 z2 z3 z4 hz re ry k0 eA eB eC fA fB fC hw hu by0 by1 by2 x1 x2; omega)
 ·have x1 : decide (d - u + 3 < A) = false := decide_eq_false c1
  by_cases c2 : d - u + 3 ≥ B
  ·have x2 : decide (d - u + 3 ≥ B) = true := decide_eq_true c2
   obtain ⟨z1, z2, z3, z4⟩ := hz (d - u + 3 - B) (by omega) (by omega)
   refine ⟨?_, ?_, ?_, ?_, ?_, ?_, ?_, ?_, ?_, ?_, ?_, ?_, ?_⟩ <;> simp only [cth, rth, cwks0F, cwks1F, cwks2F, cwks3F, rwks0F, rwks1F, rwks2F, rwks3F, rwksOkF, re, ry, k0, eA, eB, eC, fA, fB, fC, hw, hv2, hu, hu2, w1, w2, w3, w4, w5, w6, w7, w8, w9, w10, w11, w12, w13, t1, t2, by0, by1, by2, x1, x2, z1, z2, z3, z4, cond_true, cond_false, Bool.and_self, Bool.and_true, Bool.not_false]
   all_goals (clear w1 w2 w3 w4 w5 w6 w7 w8 w9 w10 w11 w12 w13 t1 t2 z1 z2 z3 z4 hz re ry k0 eA eB eC fA fB fC hw hu by0 by1 by2 x1 x2; omega)
  ·have x2 : decide (d - u + 3 ≥ B) = false := decide_eq_false c2
   obtain ⟨z1, z2, z3, z4⟩ := hz (d - u + 3 - A) (by omega) (by omega)
   refine ⟨?_, ?_, ?_, ?_, ?_, ?_, ?_, ?_, ?_, ?_, ?_, ?_, ?_⟩ <;> simp only [cth, rth, cwks0F, cwks1F, cwks2F, cwks3F, rwks0F, rwks1F, rwks2F, rwks3F, rwksOkF, re, ry, k0, eA, eB, eC, fA, fB, fC, hw, hv2, hu, hu2, w1, w2, w3, w4, w5, w6, w7, w8, w9, w10, w11, w12, w13, t1, t2, by0, by1, by2, x1, x2, z1, z2, z3, z4, cond_true, cond_false, Bool.and_self, Bool.and_true, Bool.not_false]
   all_goals (clear w1 w2 w3 w4 w5 w6 w7 w8 w9 w10 w11 w12 w13 t1 t2 z1 z2 z3 z4 hz re ry k0 eA eB eC fA fB fC hw hu by0 by1 by2 x1 x2; omega)
end Go.Proofs.YthopphfehgdocaaGreatDoor
