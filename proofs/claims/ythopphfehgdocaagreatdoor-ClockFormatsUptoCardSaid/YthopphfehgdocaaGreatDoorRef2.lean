import Derived.Test.YthopphfehgdocaaGreatDoorRef1
import Derived.Test.YthopphfehgdocaaGreatDoorStart
set_option linter.unusedSimpArgs false
set_option linter.unusedVariables false
namespace Go.Proofs.YthopphfehgdocaaGreatDoor
open Go Go.RowKit Go.Ev Go.Proofs Go.Shelf
noncomputable def b1 : Code := loopB Tryz.f66 0
noncomputable def b2 : Code := loopB Tryz.f66 1
noncomputable def b0 : Code := unspine ((bodyOf Tryz.f66).take 4)
noncomputable def b3 : Code := unspine (((bodyOf Tryz.f66).drop 5).take 1)
noncomputable def b4 : Code := unspine ((bodyOf Tryz.f66).drop 7)
def b1s (y m c r n k : Int) (g : Nat → Option Value) : T Value := lst 6 [(0, I y), (1, I m), (5, I c), (6, I r), (7, I n), (8, I k)] g
def b2s (y m c r n k : Int) (g : Nat → Option Value) : T Value := lst 6 [(0, I y), (1, I m), (5, I c), (6, I r), (7, I n), (9, I k)] g
def b1g (r n k : Int) (g : Nat → Option Value) : Nat → Option Value :=
 upd [(18, I k), (19, I r), (20, .bool (decide (k < r))), (23, I n), (24, I k), (25, I (yearF k)), (26, I (IntKind.i64.wrap (n + yearF k))), (21, I k), (22, I (IntKind.i64.wrap (k + 1)))] g
def b1x (r k : Int) (g : Nat → Option Value) : Nat → Option Value := upd [(18, I k), (19, I r), (20, .bool (decide (k < r)))] g
def b2g (m r n k : Int) (g : Nat → Option Value) : Nat → Option Value :=
 upd [(27, I k), (28, I m), (29, .bool (decide (k < m))), (32, I n), (33, I r), (34, I k), (35, I (lenF r k)), (36, I (IntKind.i64.wrap (n + lenF r k))), (30, I k), (31, I (IntKind.i64.wrap (k + 1)))] g
def b2x (m k : Int) (g : Nat → Option Value) : Nat → Option Value := upd [(27, I k), (28, I m), (29, .bool (decide (k < m)))] g
theorem b1_more (y m c r n k : Int) (g : Nat → Option Value) (H : Hp) (nx : Nat) (h : (decide (k < r)) = true) :
  EvC cx2 38 b1 { tm := b1s y m c r n k g, H, nx } .normal { tm := b1s y m c r (IntKind.i64.wrap (n + yearF k)) (IntKind.i64.wrap (k + 1)) (b1g r n k g), H, nx := nx + 11 } :=
 ⟨5, 20, orc_code hk2 (p := [true]) (m := [true]) (l := [decide (k < r) == true]) (by kernel_rfl) (by kernel_rfl) (by kernel_rfl) (aC (by rw [h]; rfl) aN)⟩
theorem b1_exit (y m c r n k : Int) (g : Nat → Option Value) (H : Hp) (nx : Nat) (h : (decide (k < r)) = false) :
  EvC cx2 38 b1 { tm := b1s y m c r n k g, H, nx } (.exit 0) { tm := b1s y m c r n k (b1x r k g), H, nx := nx + 3 } :=
 ⟨5, 20, orc_code hk2 (p := [false]) (m := [true]) (l := [decide (k < r) == false]) (by kernel_rfl) (by kernel_rfl) (by kernel_rfl) (aC (by rw [h]; rfl) aN)⟩
theorem b2_more (y m c r n k : Int) (g : Nat → Option Value) (H : Hp) (nx : Nat) (h : (decide (k < m)) = true) :
  EvC cx2 38 b2 { tm := b2s y m c r n k g, H, nx } .normal { tm := b2s y m c r (IntKind.i64.wrap (n + lenF r k)) (IntKind.i64.wrap (k + 1)) (b2g m r n k g), H, nx := nx + 12 } :=
 ⟨5, 20, orc_code hk2 (p := [true]) (m := [true]) (l := [decide (k < m) == true]) (by kernel_rfl) (by kernel_rfl) (by kernel_rfl) (aC (by rw [h]; rfl) aN)⟩
theorem b2_exit (y m c r n k : Int) (g : Nat → Option Value) (H : Hp) (nx : Nat) (h : (decide (k < m)) = false) :
  EvC cx2 38 b2 { tm := b2s y m c r n k g, H, nx } (.exit 2) { tm := b2s y m c r n k (b2x m k g), H, nx := nx + 3 } :=
 ⟨5, 20, orc_code hk2 (p := [false]) (m := [true]) (l := [decide (k < m) == false]) (by kernel_rfl) (by kernel_rfl) (by kernel_rfl) (aC (by rw [h]; rfl) aN)⟩
def bc (y : Int) : Int := IntKind.i64.wrap (y / 400)
def bn (y : Int) : Int := IntKind.i64.wrap (IntKind.i64.wrap (bc y * 146097) - 719528)
def b0g (y m : Int) : Nat → Option Value := upd [(4, I 0), (10, .tuple #[I (bc y), I (y % 400)]), (11, I y), (12, .tuple #[I (bc y), I (y % 400)]), (13, I (bc y)), (14, I (y % 400)), (15, I (bc y)), (16, I (IntKind.i64.wrap (bc y * 146097))), (17, I (bn y))] (fun _ => none)
theorem b_pre (y m : Int) (H : Hp) (nx : Nat) : EvC cx2 38 b0 { tm := T.setList (T.room 6) 0 [I y, I m], H, nx } .normal { tm := b1s y m (bc y) (y % 400) (bn y) 0 (b0g y m), H, nx := nx + 13 } :=
 ⟨5, 20, orc_code hk2 (p := []) (m := []) (l := []) (by kernel_rfl) (by kernel_rfl) (by kernel_rfl) aN⟩
theorem b_mid (y m c r n k : Int) (g : Nat → Option Value) (H : Hp) (nx : Nat) : EvC cx2 38 b3 { tm := b1s y m c r n k g, H, nx } .normal { tm := b2s y m c r n 0 (upd [(8, I k)] g), H, nx := nx + 1 } :=
 ⟨5, 20, orc_code hk2 (p := []) (m := []) (l := []) (by kernel_rfl) (by kernel_rfl) (by kernel_rfl) aN⟩
def b4t (y m c r n k : Int) (g : Nat → Option Value) : T Value := lst 6 [(0, I y), (1, I m), (5, I c), (6, I r), (7, I n), (9, I k), (4, I n), (37, I n)] g
theorem b_end (y m c r n k : Int) (g : Nat → Option Value) (H : Hp) (nx : Nat) : EvC cx2 38 b4 { tm := b2s y m c r n k g, H, nx } .ret { tm := b4t y m c r n k g, H, nx := nx + 2 } :=
 ⟨5, 20, orc_code hk2 (p := []) (m := []) (l := []) (by kernel_rfl) (by kernel_rfl) (by kernel_rfl) aN⟩
theorem b1_loop (y m c r : Int) (hr : r ≤ 400) (H : Hp) : ∀ (N : Nat) (n k : Int) (g : Nat → Option Value) (nx : Nat), 0 ≤ k → k + N = r → -100000000 ≤ n → n ≤ 100000000 - 366 * N →
  ∃ g' nx', EvC cx2 38 (.loop b1) { tm := b1s y m c r n k g, H, nx } (.exit 0) { tm := b1s y m c r (n + aheadJ r - aheadJ k) r g', H, nx := nx' } := by
 intro N
 induction N with
 | zero =>
  intro n k g nx h0 h1 h2 h3
  have hk : k = r := by omega
  have hx := b1_exit y m c r n r g H nx (by simp)
  have e : n + aheadJ r - aheadJ r = n := by omega
  rw [hk, e]
  exact ⟨_, _, hx.loop_out (by simp)⟩
 | succ N ih =>
  intro n k g nx h0 h1 h2 h3
  have hy := yearF_two k
  have hm := b1_more y m c r n k g H nx (by simp; omega)
  rw [wrap_id (n + yearF k) (by omega) (by omega), wrap_id (k + 1) (by omega) (by omega)] at hm
  obtain ⟨g', nx', e⟩ := ih (n + yearF k) (k + 1) (b1g r n k g) (nx + 11) (by omega) (by omega) (by omega) (by omega)
  rw [aheadJ_succ k h0, show n + yearF k + aheadJ r - (aheadJ k + yearF k) = n + aheadJ r - aheadJ k by omega] at e
  exact ⟨g', nx', hm.loop_more e⟩
theorem b2_loop (y m c r : Int) (hm12 : m ≤ 12) (H : Hp) : ∀ (N : Nat) (n k : Int) (g : Nat → Option Value) (nx : Nat), 0 ≤ k → k + N = m → -1000000000 ≤ n → n ≤ 1000000000 - 31 * N →
  ∃ g' nx', EvC cx2 38 (.loop b2) { tm := b2s y m c r n k g, H, nx } (.exit 2) { tm := b2s y m c r (n + cumJ r m - cumJ r k) m g', H, nx := nx' } := by
 intro N
 induction N with
 | zero =>
  intro n k g nx h0 h1 h2 h3
  have hk : k = m := by omega
  have hx := b2_exit y m c r n m g H nx (by simp)
  have e : n + cumJ r m - cumJ r m = n := by omega
  rw [hk, e]
  exact ⟨_, _, hx.loop_out (by simp)⟩
 | succ N ih =>
  intro n k g nx h0 h1 h2 h3
  have hl := lenF_pos r k h0 (by omega)
  have hm := b2_more y m c r n k g H nx (by simp; omega)
  rw [wrap_id (n + lenF r k) (by omega) (by omega), wrap_id (k + 1) (by omega) (by omega)] at hm
  obtain ⟨g', nx', e⟩ := ih (n + lenF r k) (k + 1) (b2g m r n k g) (nx + 12) (by omega) (by omega) (by omega) (by omega)
  rw [cumJ_succ r k h0 (by omega), show n + lenF r k + cumJ r m - (cumJ r k + lenF r k) = n + cumJ r m - cumJ r k by omega] at e
  exact ⟨g', nx', hm.loop_more e⟩
theorem b_pieces : bodyOf Tryz.f66 = (bodyOf Tryz.f66).take 4 ++ ([.block 0 (.loop b1)] ++ (((bodyOf Tryz.f66).drop 5).take 1 ++ ([.block 2 (.loop b2)] ++ (bodyOf Tryz.f66).drop 7))) := by kernel_rfl
noncomputable def code66 : Code := match Tryz.f66.body with
 | some c => c
 | none => .skip
theorem begin_ev (y m : Int) (H : Hp) (nx : Nat) (h1 : -100000 ≤ y) (h2 : y ≤ 100000) (h3 : 0 ≤ m) (h4 : m ≤ 12) :
  ∃ nx', EvF cx2 66 #[I y, I m] H nx (I (y / 400 * 146097 - 719528 + aheadJ (y % 400) + cumJ (y % 400) m)) H nx' := by
 have hc : bc y = y / 400 := wrap_id _ (by omega) (by omega)
 have hn : bn y = y / 400 * 146097 - 719528 := by
  unfold bn; rw [hc, wrap_id (y / 400 * 146097) (by omega) (by omega)]; exact wrap_id _ (by omega) (by omega)
 have p0 := b_pre y m H nx
 rw [hc, hn] at p0
 have hr0 : 0 ≤ y % 400 := Int.emod_nonneg _ (by decide)
 have hr1 : y % 400 < 400 := Int.emod_lt_of_pos _ (by decide)
 obtain ⟨R, hR⟩ := Int.eq_ofNat_of_zero_le hr0
 obtain ⟨M, hM⟩ := Int.eq_ofNat_of_zero_le h3
 obtain ⟨g1, nx1, e1⟩ := b1_loop y m (y / 400) (y % 400) (by omega) H R (y / 400 * 146097 - 719528) 0 (b0g y m) (nx + 13) (by omega) (by omega) (by omega) (by omega)
 have ha0 : aheadJ 0 = 0 := by decide
 have hA : 0 ≤ aheadJ (y % 400) ∧ aheadJ (y % 400) ≤ 146097 := by unfold aheadJ; omega
 rw [ha0, Int.sub_zero] at e1
 have p3 := b_mid y m (y / 400) (y % 400) (y / 400 * 146097 - 719528 + aheadJ (y % 400)) (y % 400) g1 H nx1
 obtain ⟨g2, nx2, e2⟩ := b2_loop y m (y / 400) (y % 400) h4 H M (y / 400 * 146097 - 719528 + aheadJ (y % 400)) 0 (upd [(8, I (y % 400))] g1) (nx1 + 1) (by omega) (by omega) (by omega) (by omega)
 have hc0 : cumJ (y % 400) 0 = 0 := by simp [cumJ]
 rw [hc0, Int.sub_zero] at e2
 have p4 := b_end y m (y / 400) (y % 400) (y / 400 * 146097 - 719528 + aheadJ (y % 400) + cumJ (y % 400) m) m g2 H nx2
 refine ⟨nx2 + 2, ?_⟩
 have hcode : EvC cx2 38 code66 { tm := T.setList (T.room 6) 0 [I y, I m], H, nx } .ret { tm := b4t y m (y / 400) (y % 400) (y / 400 * 146097 - 719528 + aheadJ (y % 400) + cumJ (y % 400) m) m g2, H, nx := nx2 + 2 } := by
  refine EvC.of_spine code66 ?_
  show EvL cx2 38 (bodyOf Tryz.f66) _ _ _
  rw [b_pieces]
  exact (EvL.of_unspine _ p0).append ((EvL.one e1.block_exit).append ((EvL.of_unspine _ p3).append ((EvL.one e2.block_exit).append (EvL.of_unspine _ p4))))
 exact EvF.of_code' (cx := cx2) (f := 66) (fn := Tryz.f66) (c := code66) (args := #[I y, I m]) (H := H) (nx := nx) (nt := 38) (tm := T.setList (T.room 6) 0 [I y, I m]) (e := .ret) (l := [I (y / 400 * 146097 - 719528 + aheadJ (y % 400) + cumJ (y % 400) m)])
  (by kernel_rfl) (by kernel_rfl) (by kernel_rfl) (by kernel_rfl) (by kernel_rfl) hcode (fun k h => by cases h) (by kernel_rfl)
def numF (y m : Int) : Int := Clk.number y m 1
theorem number_J (y m : Int) (h0 : 0 ≤ m) (h1 : m ≤ 11) : Clk.number y m 1 = y / 400 * 146097 - 719528 + aheadJ (y % 400) + cumJ (y % 400) m := by
 have hr0 : 0 ≤ y % 400 := Int.emod_nonneg _ (by decide)
 have hr1 : y % 400 < 400 := Int.emod_lt_of_pos _ (by decide)
 have hL := leap_L (y % 400) hr0
 obtain ⟨q1, _⟩ := cumJ_cum (y % 400) m h0 h1
 rw [q1]
 generalize (bif leapF (y % 400) then (1 : Int) else 0) = L at hL
 have hJ : aheadJ (y % 400) = Clk.A (y % 400) + 1 - L := by unfold aheadJ Clk.A; omega
 rw [hJ]
 by_cases hm : m < 2
 ·have hcum : Clk.cum L m = 31 * m := by
   have : m = 0 ∨ m = 1 := by omega
   rcases this with rfl | rfl <;> simp [Clk.cum]
  rw [hcum]
  unfold Clk.number
  simp only [hm, if_true]
  have e4 : (153 * ((m + 10) % 12) + 2) / 5 = 306 + 31 * m := by
   have : m = 0 ∨ m = 1 := by omega
   rcases this with rfl | rfl <;> decide
  rw [e4]
  by_cases hy : y % 400 = 0
  ·have e1 : (y - 1) / 400 = y / 400 - 1 := by omega
   have e2 : (y - 1) % 400 = 399 := by omega
   rw [e1, e2, hy]
   unfold Clk.A
   omega
  ·have e1 : (y - 1) / 400 = y / 400 := by omega
   have e2 : (y - 1) % 400 = y % 400 - 1 := by omega
   rw [e1, e2]
   unfold Clk.A
   omega
 ·unfold Clk.number
  simp only [hm, if_false]
  have h : m = 2 ∨ m = 3 ∨ m = 4 ∨ m = 5 ∨ m = 6 ∨ m = 7 ∨ m = 8 ∨ m = 9 ∨ m = 10 ∨ m = 11 := by omega
  unfold Clk.A
  rcases h with rfl | rfl | rfl | rfl | rfl | rfl | rfl | rfl | rfl | rfl <;> simp [Clk.cum] <;> omega
def beginV (args : Array Value) : Option Value := match args.toList with
 | [.int .i64 y, .int .i64 m] => some (.int .i64 (numF y m))
 | _ => none
def beginK (args : Array Value) : Bool := match args.toList with
 | [.int .i64 y, .int .i64 m] => decide (-100000 ≤ y) && (decide (y ≤ 100000) && (decide (0 ≤ m) && decide (m ≤ 11)))
 | _ => false
def beginA : AFn := { f := 66, val := beginV, ok := beginK }
theorem begin_sound : PSound cx0 beginA.pfn := psound_of_evF (cx_ok _) cx2_intr fun args v h H nx => by
 unfold AFn.pfn beginA beginV beginK at h
 simp only at h
 split at h
 ·cases h
 ·rename_i u hu
  split at hu
  ·rename_i y m hx
   have ha := args_two hx
   subst ha
   cases hu
   split at h
   ·rename_i hok
    cases h
    simp only [Bool.and_eq_true, decide_eq_true_eq] at hok
    obtain ⟨nx', ⟨N, e⟩⟩ := begin_ev y m H nx hok.1 hok.2.1 hok.2.2.1 (by omega)
    rw [← number_J y m hok.2.2.1 hok.2.2.2] at e
    exact ⟨N, nx', e⟩
   ·cases h
  ·cases hu
theorem wday_p0 (n : Int) (H : Hp) (nx : Nat)  : evFunc cx2 30 65 #[.int .i64 n] H nx = some ((Value.int IntKind.i64 ((IntKind.i64.wrap (n + 4)) % 7)), H, nx + 11) :=
 orc_sel_run (hk2) (m := []) (l := []) (p := []) (by kernel_rfl) (by kernel_rfl) (by kernel_rfl) aN
theorem weekday_p0 (n : Int) (H : Hp) (nx : Nat)  : evFunc cx2 30 58 #[.int .i64 n] H nx = some ((Value.int IntKind.i64 ((IntKind.i64.wrap (n + 4)) % 7)), H, nx + 11) :=
 orc_sel_run (hk2) (m := []) (l := []) (p := []) (by kernel_rfl) (by kernel_rfl) (by kernel_rfl) aN
theorem number_p0 (y m d : Int) (H : Hp) (nx : Nat) (h1 : ((decide (m < 2)) == true) = true) : evFunc cx2 30 59 #[.int .i64 y, .int .i64 m, .int .i64 d] H nx = some ((Value.int IntKind.i64 (IntKind.i64.wrap ((IntKind.i64.wrap ((IntKind.i64.wrap ((IntKind.i64.wrap ((IntKind.i64.wrap ((IntKind.i64.wrap ((IntKind.i64.wrap ((IntKind.i64.wrap ((IntKind.i64.wrap ((IntKind.i64.wrap (y - 1)) / 400)) * 146097)) + (IntKind.i64.wrap (((IntKind.i64.wrap (y - 1)) % 400) * 365)))) + (IntKind.i64.wrap (Int.tdiv ((IntKind.i64.wrap (y - 1)) % 400) 4)))) - (IntKind.i64.wrap (Int.tdiv ((IntKind.i64.wrap (y - 1)) % 400) 100)))) + (IntKind.i64.wrap (Int.tdiv (IntKind.i64.wrap ((IntKind.i64.wrap (153 * (Int.tmod (IntKind.i64.wrap (m + 10)) 12))) + 2)) 5)))) + d)) - 1)) - 719468))), H, nx + 38) :=
 orc_sel_run (hk2) (m := [true]) (l := [(decide (m < 2)) == true]) (p := [true]) (by kernel_rfl) (by kernel_rfl) (by kernel_rfl) (aC h1 aN)
theorem number_q0 (y m d : Int) (hy0 : -100000 ≤ y) (hy1 : y ≤ 100000) (hm0 : 0 ≤ m) (hm1 : m ≤ 11) (hd0 : -1000000 ≤ d) (hd1 : d ≤ 1000000) (H : Hp) (nx : Nat) (h1 : ((decide (m < 2)) == true) = true) : evFunc cx2 30 59 #[.int .i64 y, .int .i64 m, .int .i64 d] H nx = some ((Value.int IntKind.i64 ((((((((((y - 1) / 400) * 146097) + (((y - 1) % 400) * 365)) + (((y - 1) % 400) / 4)) - (((y - 1) % 400) / 100)) + (((153 * ((m + 10) % 12)) + 2) / 5)) + d) - 1) - 719468)), H, nx + 38) := by
 have h := number_p0 y m d H nx h1
 rw [wrap_id (y - 1) (by omega) (by omega)] at h
 rw [wrap_id ((y - 1) / 400) (by omega) (by omega)] at h
 rw [wrap_id (((y - 1) / 400) * 146097) (by omega) (by omega)] at h
 rw [wrap_id (((y - 1) % 400) * 365) (by omega) (by omega)] at h
 rw [wrap_id ((((y - 1) / 400) * 146097) + (((y - 1) % 400) * 365)) (by omega) (by omega)] at h
 rw [Int.tdiv_eq_ediv_of_nonneg (b := 4) (show (0 : Int) ≤ ((y - 1) % 400) by omega)] at h
 rw [wrap_id (((y - 1) % 400) / 4) (by omega) (by omega)] at h
 rw [wrap_id (((((y - 1) / 400) * 146097) + (((y - 1) % 400) * 365)) + (((y - 1) % 400) / 4)) (by omega) (by omega)] at h
 rw [Int.tdiv_eq_ediv_of_nonneg (b := 100) (show (0 : Int) ≤ ((y - 1) % 400) by omega)] at h
 rw [wrap_id (((y - 1) % 400) / 100) (by omega) (by omega)] at h
 rw [wrap_id ((((((y - 1) / 400) * 146097) + (((y - 1) % 400) * 365)) + (((y - 1) % 400) / 4)) - (((y - 1) % 400) / 100)) (by omega) (by omega)] at h
 rw [wrap_id (m + 10) (by omega) (by omega)] at h
 rw [Int.tmod_eq_emod_of_nonneg (b := 12) (show (0 : Int) ≤ (m + 10) by omega)] at h
 rw [wrap_id (153 * ((m + 10) % 12)) (by omega) (by omega)] at h
 rw [wrap_id ((153 * ((m + 10) % 12)) + 2) (by omega) (by omega)] at h
 rw [Int.tdiv_eq_ediv_of_nonneg (b := 5) (show (0 : Int) ≤ ((153 * ((m + 10) % 12)) + 2) by omega)] at h
 rw [wrap_id (((153 * ((m + 10) % 12)) + 2) / 5) (by omega) (by omega)] at h
 rw [wrap_id (((((((y - 1) / 400) * 146097) + (((y - 1) % 400) * 365)) + (((y - 1) % 400) / 4)) - (((y - 1) % 400) / 100)) + (((153 * ((m + 10) % 12)) + 2) / 5)) (by omega) (by omega)] at h
 rw [wrap_id ((((((((y - 1) / 400) * 146097) + (((y - 1) % 400) * 365)) + (((y - 1) % 400) / 4)) - (((y - 1) % 400) / 100)) + (((153 * ((m + 10) % 12)) + 2) / 5)) + d) (by omega) (by omega)] at h
 rw [wrap_id (((((((((y - 1) / 400) * 146097) + (((y - 1) % 400) * 365)) + (((y - 1) % 400) / 4)) - (((y - 1) % 400) / 100)) + (((153 * ((m + 10) % 12)) + 2) / 5)) + d) - 1) (by omega) (by omega)] at h
 rw [wrap_id ((((((((((y - 1) / 400) * 146097) + (((y - 1) % 400) * 365)) + (((y - 1) % 400) / 4)) - (((y - 1) % 400) / 100)) + (((153 * ((m + 10) % 12)) + 2) / 5)) + d) - 1) - 719468) (by omega) (by omega)] at h
 exact h
theorem number_p1 (y m d : Int) (H : Hp) (nx : Nat) (h1 : ((decide (m < 2)) == false) = true) : evFunc cx2 30 59 #[.int .i64 y, .int .i64 m, .int .i64 d] H nx = some ((Value.int IntKind.i64 (IntKind.i64.wrap ((IntKind.i64.wrap ((IntKind.i64.wrap ((IntKind.i64.wrap ((IntKind.i64.wrap ((IntKind.i64.wrap ((IntKind.i64.wrap ((IntKind.i64.wrap ((IntKind.i64.wrap (y / 400)) * 146097)) + (IntKind.i64.wrap ((y % 400) * 365)))) + (IntKind.i64.wrap (Int.tdiv (y % 400) 4)))) - (IntKind.i64.wrap (Int.tdiv (y % 400) 100)))) + (IntKind.i64.wrap (Int.tdiv (IntKind.i64.wrap ((IntKind.i64.wrap (153 * (Int.tmod (IntKind.i64.wrap (m + 10)) 12))) + 2)) 5)))) + d)) - 1)) - 719468))), H, nx + 35) :=
 orc_sel_run (hk2) (m := [true]) (l := [(decide (m < 2)) == false]) (p := [false]) (by kernel_rfl) (by kernel_rfl) (by kernel_rfl) (aC h1 aN)
theorem number_q1 (y m d : Int) (hy0 : -100000 ≤ y) (hy1 : y ≤ 100000) (hm0 : 0 ≤ m) (hm1 : m ≤ 11) (hd0 : -1000000 ≤ d) (hd1 : d ≤ 1000000) (H : Hp) (nx : Nat) (h1 : ((decide (m < 2)) == false) = true) : evFunc cx2 30 59 #[.int .i64 y, .int .i64 m, .int .i64 d] H nx = some ((Value.int IntKind.i64 (((((((((y / 400) * 146097) + ((y % 400) * 365)) + ((y % 400) / 4)) - ((y % 400) / 100)) + (((153 * ((m + 10) % 12)) + 2) / 5)) + d) - 1) - 719468)), H, nx + 35) := by
 have h := number_p1 y m d H nx h1
 rw [wrap_id (y / 400) (by omega) (by omega)] at h
 rw [wrap_id ((y / 400) * 146097) (by omega) (by omega)] at h
 rw [wrap_id ((y % 400) * 365) (by omega) (by omega)] at h
 rw [wrap_id (((y / 400) * 146097) + ((y % 400) * 365)) (by omega) (by omega)] at h
 rw [Int.tdiv_eq_ediv_of_nonneg (b := 4) (show (0 : Int) ≤ (y % 400) by omega)] at h
 rw [wrap_id ((y % 400) / 4) (by omega) (by omega)] at h
 rw [wrap_id ((((y / 400) * 146097) + ((y % 400) * 365)) + ((y % 400) / 4)) (by omega) (by omega)] at h
 rw [Int.tdiv_eq_ediv_of_nonneg (b := 100) (show (0 : Int) ≤ (y % 400) by omega)] at h
 rw [wrap_id ((y % 400) / 100) (by omega) (by omega)] at h
 rw [wrap_id (((((y / 400) * 146097) + ((y % 400) * 365)) + ((y % 400) / 4)) - ((y % 400) / 100)) (by omega) (by omega)] at h
 rw [wrap_id (m + 10) (by omega) (by omega)] at h
 rw [Int.tmod_eq_emod_of_nonneg (b := 12) (show (0 : Int) ≤ (m + 10) by omega)] at h
 rw [wrap_id (153 * ((m + 10) % 12)) (by omega) (by omega)] at h
 rw [wrap_id ((153 * ((m + 10) % 12)) + 2) (by omega) (by omega)] at h
 rw [Int.tdiv_eq_ediv_of_nonneg (b := 5) (show (0 : Int) ≤ ((153 * ((m + 10) % 12)) + 2) by omega)] at h
 rw [wrap_id (((153 * ((m + 10) % 12)) + 2) / 5) (by omega) (by omega)] at h
 rw [wrap_id ((((((y / 400) * 146097) + ((y % 400) * 365)) + ((y % 400) / 4)) - ((y % 400) / 100)) + (((153 * ((m + 10) % 12)) + 2) / 5)) (by omega) (by omega)] at h
 rw [wrap_id (((((((y / 400) * 146097) + ((y % 400) * 365)) + ((y % 400) / 4)) - ((y % 400) / 100)) + (((153 * ((m + 10) % 12)) + 2) / 5)) + d) (by omega) (by omega)] at h
 rw [wrap_id ((((((((y / 400) * 146097) + ((y % 400) * 365)) + ((y % 400) / 4)) - ((y % 400) / 100)) + (((153 * ((m + 10) % 12)) + 2) / 5)) + d) - 1) (by omega) (by omega)] at h
 rw [wrap_id (((((((((y / 400) * 146097) + ((y % 400) * 365)) + ((y % 400) / 4)) - ((y % 400) / 100)) + (((153 * ((m + 10) % 12)) + 2) / 5)) + d) - 1) - 719468) (by omega) (by omega)] at h
 exact h
def numdF (y m d : Int) : Int := Clk.number y m d
def numberV (args : Array Value) : Option Value := match args.toList with
 | [.int .i64 y, .int .i64 m, .int .i64 d] => some (.int .i64 (numdF y m d))
 | _ => none
def numberK (args : Array Value) : Bool := match args.toList with
 | [.int .i64 y, .int .i64 m, .int .i64 d] => decide (-100000 ≤ y) && (decide (y ≤ 100000) && (decide (0 ≤ m) && (decide (m ≤ 11) && (decide (-1000000 ≤ d) && decide (d ≤ 1000000)))))
 | _ => false
def numberA : AFn := { f := 59, val := numberV, ok := numberK }
theorem number_sound : PSound cx0 numberA.pfn := psound_of_evF (cx_ok _) cx2_intr fun args v h H nx => by
 unfold AFn.pfn numberA numberV numberK at h
 simp only at h
 split at h
 ·cases h
 ·rename_i u hu
  split at hu
  ·rename_i y m d hx
   have ha := args_three hx
   subst ha
   cases hu
   split at h
   ·rename_i hok
    cases h
    simp only [Bool.and_eq_true, decide_eq_true_eq] at hok
    obtain ⟨k1, k2, k3, k4, k5, k6⟩ := hok
    by_cases hm : m < 2
    ·have e := number_q0 y m d k1 k2 k3 k4 k5 k6 H nx (by simp [hm])
     refine ⟨30, nx + 38, ?_⟩
     unfold numdF Clk.number
     simp only [hm, if_true]
     exact e
    ·have e := number_q1 y m d k1 k2 k3 k4 k5 k6 H nx (by simp [hm])
     refine ⟨30, nx + 35, ?_⟩
     unfold numdF Clk.number
     simp only [hm, if_false]
     exact e
   ·cases h
  ·cases hu
def wdF (n : Int) : Int := (IntKind.i64.wrap (n + 4)) % 7
def wdP (args : Array Value) : Option Value := match args.toList with
 | [.int .i64 n] => some (.int .i64 (wdF n))
 | _ => none
def wdayE : PFn := { f := 65, c := 0, p := wdP }
def weekdayE : PFn := { f := 58, c := 0, p := wdP }
theorem wday_sound : PSound cx0 wdayE := psound_of_evF (cx_ok _) cx2_intr fun args v h H nx => by
 replace h : wdP args = some v := h
 unfold wdP at h
 split at h
 ·rename_i n hx
  have ha := args_one hx
  subst ha
  cases h
  exact ⟨30, _, wday_p0 n H nx⟩
 ·cases h
theorem weekday_sound : PSound cx0 weekdayE := psound_of_evF (cx_ok _) cx2_intr fun args v h H nx => by
 replace h : wdP args = some v := h
 unfold wdP at h
 split at h
 ·rename_i n hx
  have ha := args_one hx
  subst ha
  cases h
  exact ⟨30, _, weekday_p0 n H nx⟩
 ·cases h
def cdD (n : Int) : Int := IntKind.i64.wrap (n + 719468) % 146097
def cdY (n : Int) : Int := IntKind.i64.wrap (Int.tdiv (IntKind.i64.wrap (IntKind.i64.wrap (IntKind.i64.wrap (cdD n - IntKind.i64.wrap (Int.tdiv (cdD n) 1460)) + IntKind.i64.wrap (Int.tdiv (cdD n) 36524)) - IntKind.i64.wrap (Int.tdiv (cdD n) 146096))) 365)
def cdR (n : Int) : Int := IntKind.i64.wrap (cdD n - IntKind.i64.wrap (IntKind.i64.wrap (IntKind.i64.wrap (365 * cdY n) + IntKind.i64.wrap (Int.tdiv (cdY n) 4)) - IntKind.i64.wrap (Int.tdiv (cdY n) 100)))
def cdM (n : Int) : Int := IntKind.i64.wrap (Int.tdiv (IntKind.i64.wrap (IntKind.i64.wrap (5 * cdR n) + 2)) 153)
def cdE (n : Int) : Int := IntKind.i64.wrap (IntKind.i64.wrap (cdR n - IntKind.i64.wrap (Int.tdiv (IntKind.i64.wrap (IntKind.i64.wrap (153 * cdM n) + 2)) 5)) + 1)
def cdC (n : Int) : Int := IntKind.i64.wrap (IntKind.i64.wrap (IntKind.i64.wrap (IntKind.i64.wrap (n + 719468) / 146097) * 400) + cdY n)
theorem cdate_p0 (n : Int) (H : Hp) (nx : Nat) (h1 : ((decide (n < ((-4371587 : Int)))) == false) = true) (h2 : ((decide (n > 2932896)) == false) = true) (h3 : ((decide (cdM n ≥ 10)) == true) = true) : evFunc cx2 30 57 #[.int .i64 n] H nx = some (.tuple #[.int .i64 (IntKind.i64.wrap (cdC n + 1)), .int .i64 (IntKind.i64.wrap (cdM n - 10)), .int .i64 (cdE n), .int .i64 0], H, nx + 70) :=
 orc_sel_run (hk2) (m := (bitsN 13 4111)) (p := (bitsN 5 16)) (by kernel_rfl) (by kernel_rfl) (by kernel_rfl) (C3 h1 (aC h2 (aC h3 aN)))
theorem cdate_p1 (n : Int) (H : Hp) (nx : Nat) (h1 : ((decide (n < ((-4371587 : Int)))) == false) = true) (h2 : ((decide (n > 2932896)) == false) = true) (h3 : ((decide (cdM n ≥ 10)) == false) = true) : evFunc cx2 30 57 #[.int .i64 n] H nx = some (.tuple #[.int .i64 (cdC n), .int .i64 (IntKind.i64.wrap (cdM n + 2)), .int .i64 (cdE n), .int .i64 0], H, nx + 69) :=
 orc_sel_run (hk2) (m := (bitsN 13 4111)) (p := (bitsN 5 0)) (by kernel_rfl) (by kernel_rfl) (by kernel_rfl) (C3 h1 (aC h2 (aC h3 aN)))
theorem cd_val {n : Int} (h0 : -4371587 ≤ n) (h1 : n ≤ 2932896) : cdM n = Clk.dateM n ∧ cdE n = Clk.dateDay n ∧ cdC n = Clk.dateCyc n * 400 + Clk.dateY n := by
 have w : ∀ x : Int, -1000000000000 ≤ x → x ≤ 1000000000000 → IntKind.i64.wrap x = x := fun x a b => wrap_id x (by omega) (by omega)
 have t : ∀ x k : Int, 0 ≤ x → Int.tdiv x k = x / k := fun x k a => Int.tdiv_eq_ediv_of_nonneg a
 have hf := Clk.dateY_spec n
 have eD : cdD n = Clk.dateD n := by unfold cdD Clk.dateD; rw [w _ (by omega) (by omega)]
 have bD : 0 ≤ Clk.dateD n ∧ Clk.dateD n < 146097 := by unfold Clk.dateD; omega
 have eY : cdY n = Clk.dateY n := by
  unfold cdY Clk.dateY
  rw [eD]
  generalize Clk.dateD n = d at bD
  rw [t d 1460 (by omega), t d 36524 (by omega), t d 146096 (by omega), w (d / 1460) (by omega) (by omega), w (d / 36524) (by omega) (by omega), w (d / 146096) (by omega) (by omega), w (d - d / 1460) (by omega) (by omega), w (d - d / 1460 + d / 36524) (by omega) (by omega), w (d - d / 1460 + d / 36524 - d / 146096) (by omega) (by omega), t _ 365 (by omega), w _ (by omega) (by omega)]
 have eR : cdR n = Clk.dateDoy n := by
  have e : Clk.dateDoy n = Clk.dateD n - (365 * Clk.dateY n + Clk.dateY n / 4 - Clk.dateY n / 100) := rfl
  unfold cdR
  rw [eD, eY, e]
  generalize Clk.dateD n = d at bD
  generalize Clk.dateY n = y at hf
  rw [t y 4 (by omega), t y 100 (by omega), w (365 * y) (by omega) (by omega), w (y / 4) (by omega) (by omega), w (y / 100) (by omega) (by omega), w (365 * y + y / 4) (by omega) (by omega), w (365 * y + y / 4 - y / 100) (by omega) (by omega), w _ (by omega) (by omega)]
 have eM : cdM n = Clk.dateM n := by
  have e : Clk.dateM n = (5 * Clk.dateDoy n + 2) / 153 := rfl
  unfold cdM
  rw [eR, e]
  generalize Clk.dateDoy n = r at hf
  rw [w (5 * r) (by omega) (by omega), w (5 * r + 2) (by omega) (by omega), t _ 153 (by omega), w _ (by omega) (by omega)]
 have bM : 0 ≤ Clk.dateM n ∧ Clk.dateM n ≤ 11 := by have := Clk.date_ranges n; omega
 refine ⟨eM, ?_, ?_⟩
 ·have e : Clk.dateDay n = Clk.dateDoy n - (153 * Clk.dateM n + 2) / 5 + 1 := rfl
  unfold cdE
  rw [eR, eM, e]
  generalize Clk.dateDoy n = r at hf
  generalize Clk.dateM n = m at bM
  rw [w (153 * m) (by omega) (by omega), w (153 * m + 2) (by omega) (by omega), t _ 5 (by omega), w ((153 * m + 2) / 5) (by omega) (by omega), w (r - (153 * m + 2) / 5) (by omega) (by omega), w _ (by omega) (by omega)]
 ·have e : Clk.dateCyc n = (n + 719468) / 146097 := rfl
  unfold cdC
  rw [eY, e, w (n + 719468) (by omega) (by omega), w ((n + 719468) / 146097) (by omega) (by omega), w ((n + 719468) / 146097 * 400) (by omega) (by omega), w _ (by omega) (by omega)]
theorem cdate_q0 (n : Int) (h0 : -4371587 ≤ n) (h1 : n ≤ 2932896) (hm : 10 ≤ Clk.dateM n) (H : Hp) (nx : Nat) : evFunc cx2 30 57 #[.int .i64 n] H nx = some (.tuple #[.int .i64 (Clk.dateCyc n * 400 + Clk.dateY n + 1), .int .i64 (Clk.dateM n - 10), .int .i64 (Clk.dateDay n), .int .i64 0], H, nx + 70) := by
 obtain ⟨a, b, c⟩ := cd_val h0 h1
 have hf := Clk.dateY_spec n
 have r := Clk.date_ranges n
 have e : Clk.dateCyc n = (n + 719468) / 146097 := rfl
 have p := cdate_p0 n H nx (by simp; omega) (by simp; omega) (by rw [a]; simp [hm])
 rw [a, b, c, wrap_id (Clk.dateM n - 10) (by omega) (by omega), wrap_id (Clk.dateCyc n * 400 + Clk.dateY n + 1) (by omega) (by omega)] at p
 exact p
theorem cdate_q1 (n : Int) (h0 : -4371587 ≤ n) (h1 : n ≤ 2932896) (hm : ¬ 10 ≤ Clk.dateM n) (H : Hp) (nx : Nat) : evFunc cx2 30 57 #[.int .i64 n] H nx = some (.tuple #[.int .i64 (Clk.dateCyc n * 400 + Clk.dateY n), .int .i64 (Clk.dateM n + 2), .int .i64 (Clk.dateDay n), .int .i64 0], H, nx + 69) := by
 obtain ⟨a, b, c⟩ := cd_val h0 h1
 have r := Clk.date_ranges n
 have p := cdate_p1 n H nx (by simp; omega) (by simp; omega) (by rw [a]; simp; omega)
 rw [a, b, c, wrap_id (Clk.dateM n + 2) (by omega) (by omega)] at p
 exact p
theorem cdate_out_p0 (n : Int) (H : Hp) (nx : Nat) (h1 : ((decide (n < ((-4371587 : Int)))) == true) = true) : evFunc cx2 30 57 #[.int .i64 n] H nx = some ((Value.tuple #[(Value.int IntKind.i64 0), (Value.int IntKind.i64 0), (Value.int IntKind.i64 0), (Value.int IntKind.i64 110)]), H, nx + 12) :=
 orc_sel_run (hk2) (m := [true, true, true]) (l := [(decide (n < ((-4371587 : Int)))) == true, (decide (n < ((-4371587 : Int)))) == true, (decide (n < ((-4371587 : Int)))) == true]) (p := [true, true, true, true]) (by kernel_rfl) (by kernel_rfl) (by kernel_rfl) (C3 h1 aN)
theorem cdate_out_p1 (n : Int) (H : Hp) (nx : Nat) (h1 : ((decide (n < ((-4371587 : Int)))) == false) = true) (h2 : ((decide (n > 2932896)) == true) = true) : evFunc cx2 30 57 #[.int .i64 n] H nx = some ((Value.tuple #[(Value.int IntKind.i64 0), (Value.int IntKind.i64 0), (Value.int IntKind.i64 0), (Value.int IntKind.i64 110)]), H, nx + 14) :=
 orc_sel_run (hk2) (m := [true, true, true, true]) (l := [(decide (n < ((-4371587 : Int)))) == false, (decide (n < ((-4371587 : Int)))) == false, (decide (n < ((-4371587 : Int)))) == false, (decide (n > 2932896)) == true]) (p := [false, false, false, true]) (by kernel_rfl) (by kernel_rfl) (by kernel_rfl) (C3 h1 (aC h2 aN))
def cdateE : PFn := { f := 57, c := 0, p := dateP }
theorem cdate_sound : PSound cx0 cdateE := psound_of_evF (cx_ok _) cx2_intr fun args v h H nx => by
 replace h : dateP args = some v := h
 unfold dateP at h
 split at h
 ·rename_i n hx
  have ha := args_one hx
  subst ha
  cases h
  by_cases h1 : -4371587 ≤ n
  ·by_cases h2 : n ≤ 2932896
   ·have hi : inF n = true := by simp [inF, h1, h2]
    unfold ryF rmF rdF reF
    rw [hi]
    by_cases hm : 10 ≤ Clk.dateM n
    ·refine ⟨30, nx + 70, ?_⟩
     have e := cdate_q0 n h1 h2 hm H nx
     simp only [cond_true]
     unfold Clk.dateYear Clk.dateMonth
     rw [if_pos hm, if_pos hm]
     exact e
    ·refine ⟨30, nx + 69, ?_⟩
     have e := cdate_q1 n h1 h2 hm H nx
     simp only [cond_true]
     unfold Clk.dateYear Clk.dateMonth
     rw [if_neg hm, if_neg hm]
     exact e
   ·have hi : inF n = false := by simp [inF]; omega
    refine ⟨30, nx + 14, ?_⟩
    unfold ryF rmF rdF reF
    rw [hi]
    exact cdate_out_p1 n H nx (by simp; omega) (by simp; omega)
  ·have hi : inF n = false := by simp [inF]; omega
   refine ⟨30, nx + 12, ?_⟩
   unfold ryF rmF rdF reF
   rw [hi]
   exact cdate_out_p0 n H nx (by simp; omega)
 ·cases h
theorem cleap_p0 (y : Int) (H : Hp) (nx : Nat) (h1 : (((Int.tmod y 400) == 0) == true) = true) : evFunc { cx0 with intr := fun _ => none } 30 204 #[.int .i64 y] H nx = some ((Value.bool true), H, nx + 7) :=
 orc_sel_run (hk_ok (fun _ => none)) (m := [false, true, true, true, true, true, true]) (l := [((Int.tmod y 400) == 0) == true, ((Int.tmod y 400) == 0) == true, ((Int.tmod y 400) == 0) == true, ((Int.tmod y 400) == 0) == true, ((Int.tmod y 400) == 0) == true, ((Int.tmod y 400) == 0) == true]) (p := [true, true, true, true, true, true]) (by kernel_rfl) (by kernel_rfl) (by kernel_rfl) (C6 h1 aN)
theorem cleap_p1 (y : Int) (H : Hp) (nx : Nat) (h1 : (((Int.tmod y 400) == 0) == false) = true) (h2 : (((Int.tmod y 4) == 0) == true) = true) : evFunc { cx0 with intr := fun _ => none } 30 204 #[.int .i64 y] H nx = some ((Value.bool ((Int.tmod y 100) != 0)), H, nx + 15) :=
 orc_sel_run (hk_ok (fun _ => none)) (m := [false, true, true, false, true, true, true, true, false, true, true, true, true]) (l := [((Int.tmod y 400) == 0) == false, ((Int.tmod y 400) == 0) == false, ((Int.tmod y 400) == 0) == false, ((Int.tmod y 400) == 0) == false, ((Int.tmod y 4) == 0) == true, ((Int.tmod y 4) == 0) == true, ((Int.tmod y 4) == 0) == true, ((Int.tmod y 400) == 0) == false, ((Int.tmod y 4) == 0) == true, ((Int.tmod y 400) == 0) == false]) (p := [false, false, false, false, true, true, true, false, true, false]) (by kernel_rfl) (by kernel_rfl) (by kernel_rfl) (C4 h1 (C3 h2 (aC h1 (aC h2 (aC h1 aN)))))
theorem cleap_p2 (y : Int) (H : Hp) (nx : Nat) (h1 : (((Int.tmod y 400) == 0) == false) = true) (h2 : (((Int.tmod y 4) == 0) == false) = true) : evFunc { cx0 with intr := fun _ => none } 30 204 #[.int .i64 y] H nx = some ((Value.bool false), H, nx + 12) :=
 orc_sel_run (hk_ok (fun _ => none)) (m := [false, true, true, false, true, true, true, true, true, true, true, true]) (l := [((Int.tmod y 400) == 0) == false, ((Int.tmod y 400) == 0) == false, ((Int.tmod y 400) == 0) == false, ((Int.tmod y 400) == 0) == false, ((Int.tmod y 4) == 0) == false, ((Int.tmod y 4) == 0) == false, ((Int.tmod y 4) == 0) == false, ((Int.tmod y 400) == 0) == false, ((Int.tmod y 4) == 0) == false, ((Int.tmod y 400) == 0) == false]) (p := [false, false, false, false, false, false, false, false, false, false]) (by kernel_rfl) (by kernel_rfl) (by kernel_rfl) (C4 h1 (C3 h2 (aC h1 (aC h2 (aC h1 aN)))))
theorem cleapF_eq (y : Int) : leapF y = bif (Int.tmod y 400 == 0) then true else bif (Int.tmod y 4 == 0) then (Int.tmod y 100 != 0) else false := by
 have e : ∀ k : Int, (Int.tmod y k == 0) = decide (k ∣ y) := by
  intro k
  rw [Bool.eq_iff_iff, beq_iff_eq, decide_eq_true_iff]
  exact ⟨Int.dvd_of_tmod_eq_zero, Int.tmod_eq_zero_of_dvd⟩
 unfold leapF
 simp only [bne, e]
 by_cases h4 : (4 : Int) ∣ y <;> by_cases h1 : (100 : Int) ∣ y <;> by_cases h0 : (400 : Int) ∣ y <;> simp [h4, h1, h0] <;> omega
def cleapE : PFn := { f := 204, c := 15, p := fun args => match args.toList with
 | [.int .i64 y] => some (.bool (leapF y))
 | _ => none }
theorem cleap_sound : PSound cx0 cleapE := psound_of_ev (cx_ok _) cx0_intr fun args v h H nx => by
 unfold cleapE at h
 simp only at h
 split at h
 ·rename_i y hy
  cases h
  have := args_one hy
  subst this
  rw [cleapF_eq]
  cases h1 : (Int.tmod y 400 == 0) with
  | true => exact ⟨30, 7, by have := cleap_p0 y H nx (by rw [h1]; rfl); exact this, by decide⟩
  | false =>
   cases h2 : (Int.tmod y 4 == 0) with
   | true => exact ⟨30, 15, by have := cleap_p1 y H nx (by rw [h1]; rfl) (by rw [h2]; rfl); exact this, by decide⟩
   | false => exact ⟨30, 12, by have := cleap_p2 y H nx (by rw [h1]; rfl) (by rw [h2]; rfl); exact this, by decide⟩
 ·cases h
def lev3 : List PFn := [cleapE]
theorem lev3_sound : ∀ e ∈ lev3, PSound cx0 e := psound_cons cleap_sound psound_nil
theorem cx3_intr : IntrOk { cx0 with intr := tabI lev3 } := tabI_ok lev3_sound
theorem psound_start {j : FuncId → Option (Array Value → Hp → Nat → Option (Value × Hp × Nat))} (hc : CxOk { cx0 with intr := j }) (hI : IntrOk { cx0 with intr := j }) {e : PFn}
  (hg : ∀ args v, e.p args = some v → args.toList.all (closed 60) = true ∧ shut v = true ∧ ∃ n H' nx', evFunc { cx0 with intr := j } n e.f args H0 12 = some (v, H', nx')) : PSound cx0 e := fun i =>
 pureI_sound fun args args' v B w E hW hB har hp => by
  obtain ⟨ha, hv, n, H', nx', h⟩ := hg args v hp
  obtain ⟨h11, a, hab, hk⟩ := hW
  have he : args' = args := by
   refine Array.ext har.1.symm fun k h1 h2 => ?_
   have p : args[k]? = some args[k] := Array.getElem?_eq_getElem h2
   have q : args'[k]? = some args'[k] := Array.getElem?_eq_getElem h1
   exact (har.2 k _ _ p q).shut_eq 60 (closed_all ha k _ p)
  subst he
  refine (ev_start hc hI w (start hk j) ⟨by omega, a, by omega, hk⟩ (AR.closed _ ha) h hv).mono ?_
  rintro e w' ⟨rfl, hb⟩
  exact ⟨rfl, hv, hb⟩
theorem clen0 (y : Int) : (evFunc { cx0 with intr := tabI lev3 } 30 166 #[.int .i64 y, .int .i64 0] H0 12).map (·.1) = some (Value.int IntKind.i64 31) := by kernel_rfl
theorem clen2 (y : Int) : (evFunc { cx0 with intr := tabI lev3 } 30 166 #[.int .i64 y, .int .i64 2] H0 12).map (·.1) = some (Value.int IntKind.i64 31) := by kernel_rfl
theorem clen3 (y : Int) : (evFunc { cx0 with intr := tabI lev3 } 30 166 #[.int .i64 y, .int .i64 3] H0 12).map (·.1) = some (Value.int IntKind.i64 30) := by kernel_rfl
theorem clen4 (y : Int) : (evFunc { cx0 with intr := tabI lev3 } 30 166 #[.int .i64 y, .int .i64 4] H0 12).map (·.1) = some (Value.int IntKind.i64 31) := by kernel_rfl
theorem clen5 (y : Int) : (evFunc { cx0 with intr := tabI lev3 } 30 166 #[.int .i64 y, .int .i64 5] H0 12).map (·.1) = some (Value.int IntKind.i64 30) := by kernel_rfl
theorem clen6 (y : Int) : (evFunc { cx0 with intr := tabI lev3 } 30 166 #[.int .i64 y, .int .i64 6] H0 12).map (·.1) = some (Value.int IntKind.i64 31) := by kernel_rfl
theorem clen7 (y : Int) : (evFunc { cx0 with intr := tabI lev3 } 30 166 #[.int .i64 y, .int .i64 7] H0 12).map (·.1) = some (Value.int IntKind.i64 31) := by kernel_rfl
theorem clen8 (y : Int) : (evFunc { cx0 with intr := tabI lev3 } 30 166 #[.int .i64 y, .int .i64 8] H0 12).map (·.1) = some (Value.int IntKind.i64 30) := by kernel_rfl
theorem clen9 (y : Int) : (evFunc { cx0 with intr := tabI lev3 } 30 166 #[.int .i64 y, .int .i64 9] H0 12).map (·.1) = some (Value.int IntKind.i64 31) := by kernel_rfl
theorem clen10 (y : Int) : (evFunc { cx0 with intr := tabI lev3 } 30 166 #[.int .i64 y, .int .i64 10] H0 12).map (·.1) = some (Value.int IntKind.i64 30) := by kernel_rfl
theorem clen11 (y : Int) : (evFunc { cx0 with intr := tabI lev3 } 30 166 #[.int .i64 y, .int .i64 11] H0 12).map (·.1) = some (Value.int IntKind.i64 31) := by kernel_rfl
theorem clen1t (y : Int) : (evFuncO { cx0 with intr := tabI lev3 } hk 30 166 #[.int .i64 y, .int .i64 1] H0 12 [false,false,false,false,true,true,true,true]).map (fun r => (r.1, bools r.2.2.2.2)) = some (Value.int IntKind.i64 29, (leapF y == true) && true) := by kernel_rfl
theorem clen1f (y : Int) : (evFuncO { cx0 with intr := tabI lev3 } hk 30 166 #[.int .i64 y, .int .i64 1] H0 12 [false,false,false,false,true,true,true,false]).map (fun r => (r.1, bools r.2.2.2.2)) = some (Value.int IntKind.i64 28, (leapF y == false) && true) := by kernel_rfl
theorem clen1tl (y : Int) : (evFuncO { cx0 with intr := tabI lev3 } hk 30 166 #[.int .i64 y, .int .i64 1] H0 12 [false,false,false,false,true,true,true,true]).map (fun r => lefts r.2.2.2.2) = (evFuncO { cx0 with intr := tabI lev3 } hk 30 166 #[.int .i64 y, .int .i64 1] H0 12 [false,false,false,false,true,true,true,true]).map (fun r => rights r.2.2.2.2) := by kernel_rfl
theorem clen1fl (y : Int) : (evFuncO { cx0 with intr := tabI lev3 } hk 30 166 #[.int .i64 y, .int .i64 1] H0 12 [false,false,false,false,true,true,true,false]).map (fun r => lefts r.2.2.2.2) = (evFuncO { cx0 with intr := tabI lev3 } hk 30 166 #[.int .i64 y, .int .i64 1] H0 12 [false,false,false,false,true,true,true,false]).map (fun r => rights r.2.2.2.2) := by kernel_rfl
theorem clen_out_p0 (y m : Int) (H : Hp) (nx : Nat) (h1 : ((decide (m < 0)) == true) = true) : evFunc { cx0 with intr := tabI lev3 } 30 166 #[.int .i64 y, .int .i64 m] H nx = some ((Value.int IntKind.i64 0), H, nx + 6) :=
 orc_sel_run (hk_ok (tabI lev3)) (m := [true, true, true]) (l := [(decide (m < 0)) == true, (decide (m < 0)) == true, (decide (m < 0)) == true]) (p := [true, true, true, true]) (by kernel_rfl) (by kernel_rfl) (by kernel_rfl) (C3 h1 aN)
theorem clen_out_p1 (y m : Int) (H : Hp) (nx : Nat) (h1 : ((decide (m < 0)) == false) = true) (h2 : ((decide (m > 11)) == true) = true) : evFunc { cx0 with intr := tabI lev3 } 30 166 #[.int .i64 y, .int .i64 m] H nx = some ((Value.int IntKind.i64 0), H, nx + 8) :=
 orc_sel_run (hk_ok (tabI lev3)) (m := [true, true, true, true]) (l := [(decide (m < 0)) == false, (decide (m < 0)) == false, (decide (m < 0)) == false, (decide (m > 11)) == true]) (p := [false, false, false, true]) (by kernel_rfl) (by kernel_rfl) (by kernel_rfl) (C3 h1 (aC h2 aN))
theorem of_fst {o : Option (Value × Hp × Nat)} {v : Value} (h : o.map (·.1) = some v) : ∃ H' nx', o = some (v, H', nx') := by
 cases o with
 | none => cases h
 | some r => obtain ⟨a, b, c⟩ := r; cases h; exact ⟨b, c, rfl⟩
theorem lenF_out (y m : Int) (h : m < 0 ∨ m > 11) : lenF y m = 0 := by
 have e : ∀ k : Int, 0 ≤ k → k ≤ 11 → (m == k) = false := fun k h1 h2 => by
  rw [beq_eq_false_iff_ne]; omega
 unfold lenF
 simp [e]
def clenE : PFn := { f := 166, c := 60, p := fun args => match args.toList with
 | [.int .i64 y, .int .i64 m] => some (.int .i64 (lenF y m))
 | _ => none }
theorem clen_sound : PSound cx0 clenE := psound_start (cx_ok _) cx3_intr fun args v h => by
 unfold clenE at h
 simp only at h
 split at h
 ·rename_i y m hy
  cases h
  have := args_two hy
  subst this
  refine ⟨rfl, rfl, 30, ?_⟩
  by_cases c0 : m < 0
  ·rw [lenF_out y m (.inl c0)]
   exact ⟨_, _, clen_out_p0 y m H0 12 (by simp [c0])⟩
  by_cases c1 : m > 11
  ·rw [lenF_out y m (.inr c1)]
   exact ⟨_, _, clen_out_p1 y m H0 12 (by simp [c0]) (by simp [c1])⟩
  have hm : m = 0 ∨ m = 1 ∨ m = 2 ∨ m = 3 ∨ m = 4 ∨ m = 5 ∨ m = 6 ∨ m = 7 ∨ m = 8 ∨ m = 9 ∨ m = 10 ∨ m = 11 := by omega
  rcases hm with rfl | rfl | rfl | rfl | rfl | rfl | rfl | rfl | rfl | rfl | rfl | rfl
  ·exact of_fst (clen0 y)
  ·cases el : leapF y with
   | true =>
    have := orc_val (hk_ok (tabI lev3)) (clen1t y) (clen1tl y) (by rw [el]; rfl)
    have e : lenF y 1 = 29 := by unfold lenF; rw [el]; rfl
    rw [e]; exact this
   | false =>
    have := orc_val (hk_ok (tabI lev3)) (clen1f y) (clen1fl y) (by rw [el]; rfl)
    have e : lenF y 1 = 28 := by unfold lenF; rw [el]; rfl
    rw [e]; exact this
  ·exact of_fst (clen2 y)
  ·exact of_fst (clen3 y)
  ·exact of_fst (clen4 y)
  ·exact of_fst (clen5 y)
  ·exact of_fst (clen6 y)
  ·exact of_fst (clen7 y)
  ·exact of_fst (clen8 y)
  ·exact of_fst (clen9 y)
  ·exact of_fst (clen10 y)
  ·exact of_fst (clen11 y)
 ·cases h
end Go.Proofs.YthopphfehgdocaaGreatDoor
