import Derived.Test.YthopphfehgdocaaGreatDoorPlb
import Derived.Test.YthopphfehgdocaaGreatDoorWb
import Derived.Test.YthopphfehgdocaaGreatDoorRefR
import Derived.Test.YthopphfehgdocaaGreatDoorRefD
import Derived.Test.YthopphfehgdocaaGreatDoorRefE
import Derived.Test.YthopphfehgdocaaGreatDoorRefP
set_option linter.unusedSimpArgs false
set_option linter.unusedVariables false
namespace Go.Proofs.YthopphfehgdocaaGreatDoor
open Go Go.RowKit Go.Ev Go.Proofs Go.Shelf
structure EnvOf (Y M D ho mi : Int) (S : Nat) (n : Int) : Prop where
 y0 : -9999 ≤ Y
 y1 : Y ≤ 9999
 m0 : 0 ≤ M
 m1 : M ≤ 11
 d0 : 1 ≤ D
 d1 : D ≤ 31
 h0 : 0 ≤ ho
 h1 : ho ≤ 23
 i0 : 0 ≤ mi
 i1 : mi ≤ 59
 n0 : -377705116800 ≤ n
 n1 : n ≤ 253402300799
 f : rflo0F n 86400 = n / 86400
 ra : rdayOkF Y 0 1 = true
 wk : WeeksOf (n / 86400)
 wd : rwdF n = wdF (n / 86400)
 w0 : 0 ≤ wdF (n / 86400)
 w1 : wdF (n / 86400) ≤ 6
 yd : ydF Y n = n / 86400 - Clk.number Y 0 1 + 1
 j0 : 0 ≤ n / 86400 - Clk.number Y 0 1
 j1 : n / 86400 - Clk.number Y 0 1 ≤ 400
 fs : f2i .f64 (fround .down S) = n % 60
 fr : froundOk S = true
 fo : f2iOk .f64 (fround .down S) .i64 = true
theorem EnvOf.all {Y M D ho mi : Int} {S : Nat} {n : Int} (E : EnvOf Y M D ho mi S n) : -9999 ≤ Y ∧ Y ≤ 9999 ∧ 0 ≤ M ∧ M ≤ 11 ∧ 1 ≤ D ∧ D ≤ 31 ∧ 0 ≤ ho ∧ ho ≤ 23 ∧ 0 ≤ mi ∧ mi ≤ 59 ∧ -377705116800 ≤ n ∧ n ≤ 253402300799 ∧ 0 ≤ n / 86400 - Clk.number Y 0 1 ∧ n / 86400 - Clk.number Y 0 1 ≤ 400 ∧ 0 ≤ wdF (n / 86400) ∧ wdF (n / 86400) ≤ 6 := ⟨E.y0, E.y1, E.m0, E.m1, E.d0, E.d1, E.h0, E.h1, E.i0, E.i1, E.n0, E.n1, E.j0, E.j1, E.w0, E.w1⟩
theorem WeeksOf.all {d : Int} (w : WeeksOf d) : -10000 ≤ rwks0F d ∧ rwks0F d ≤ 10000 ∧ 0 ≤ rwks1F d ∧ rwks1F d ≤ 1000 ∧ 0 ≤ rwks2F d ∧ rwks2F d ≤ 1000 ∧ 0 ≤ rwks3F d ∧ rwks3F d ≤ 1000 := ⟨w.a0, w.b0, w.a1, w.b1, w.a2, w.b2, w.a3, w.b3⟩
theorem env_of {Y M D ho mi : Int} {S : Nat} {n : Int} (T : TimeOf Y M D ho mi S n) : EnvOf Y M D ho mi S n := by
 have n0 := T.n1
 have n1 := T.n2
 have d1 : -4371587 ≤ n / 86400 := by omega
 have d2 : n / 86400 ≤ 2932896 := by omega
 have r := Clk.date_ranges (n / 86400)
 have yr := Clk.dateYear_range (n / 86400) d1 d2
 have df := day_first (n / 86400)
 have ey := T.y
 have em := T.m
 have ed := T.d
 have eh := T.h
 have ei := T.i
 have f := rflo_val n 86400 (by omega) (by omega) (by omega)
 rw [← ey] at df yr
 have wb : 0 ≤ wdF (n / 86400) ∧ wdF (n / 86400) ≤ 6 := by unfold wdF; omega
 have lp := lenF_pos Y 0 (by omega) (by omega)
 have c1 : decide (Y ≥ -9999) = true := decide_eq_true (by omega)
 have c2 : decide (Y ≤ 9999) = true := decide_eq_true (by omega)
 have c3 : decide ((1 : Int) < 1) = false := rfl
 have c4 : decide ((1 : Int) > lenF Y 0) = false := decide_eq_false (by omega)
 have c5 : beginOkF Y 0 = true := by unfold beginOkF; simp only [Bool.and_eq_true, decide_eq_true_eq]; omega
 have nr : -5000000 ≤ Clk.number Y 0 1 ∧ Clk.number Y 0 1 ≤ 5000000 := by omega
 have fN : numF Y 0 = Clk.number Y 0 1 := rfl
 refine ⟨yr.1, yr.2, by omega, by omega, by omega, by omega, by omega, by omega, by omega, by omega, n0, n1, f, ?_, weeks_all _ d1 d2, ?_, wb.1, wb.2, ?_, by omega, by omega, T.s, T.f1, T.f2⟩
 ·simp only [rdayOkF, c1, c2, c3, c4, c5, cond_true, cond_false, Bool.not_true, Bool.and_self]
 ·unfold rwdF
  rw [f]
  unfold wdF
  rw [wrap_id (n / 86400 + 4) (by omega) (by omega)]
  have b := congrArg Prod.snd (Clk.divide_eq (n / 86400 + 4) 7 (by omega))
  by_cases hm : Int.tmod (n / 86400 + 4) 7 < 0
  ·rw [if_pos hm] at b
   replace b : Int.tmod (n / 86400 + 4) 7 + 7 = (n / 86400 + 4) % 7 := b
   rw [b, wrap_id _ (by omega) (by omega), Int.tmod_eq_emod_of_nonneg (by omega)]
   omega
  ·rw [if_neg hm] at b
   replace b : Int.tmod (n / 86400 + 4) 7 = (n / 86400 + 4) % 7 := b
   rw [b, wrap_id _ (by omega) (by omega), Int.tmod_eq_emod_of_nonneg (by omega)]
   omega
 ·unfold ydF
  rw [f]
  simp only [rday0F, c1, c2, c3, c4, cond_true, cond_false, Bool.not_true, fN]
  rw [wrap_id (Clk.number Y 0 1 + 1) (by omega) (by omega), Int.add_sub_cancel, wrap_id (Clk.number Y 0 1) (by omega) (by omega), wrap_id (n / 86400 - Clk.number Y 0 1) (by omega) (by omega), wrap_id _ (by omega) (by omega)]
theorem wrapS {k : Int} (h0 : -100000000000000 ≤ k) (h1 : k ≤ 100000000000000) : IntKind.i64.wrap k = k := wrap_id _ (by omega) (by omega)
theorem cen1_val {y : Int} (h0 : -20000 ≤ y) (h1 : y ≤ 20000) : dcen1F y = y % 100 := by
 have e := congrArg Prod.snd (Clk.divide_eq y 100 (by omega))
 unfold dcen1F
 by_cases hm : Int.tmod y 100 < 0
 ·rw [if_pos hm] at e
  rw [decide_eq_true hm, cond_true, wrapS (by omega) (by omega)]
  exact e
 ·rw [if_neg hm] at e
  rw [decide_eq_false hm, cond_false]
  exact e
theorem rcen1_val {y : Int} (h0 : -20000 ≤ y) (h1 : y ≤ 20000) : IntKind.i64.wrap (y - IntKind.i64.wrap (100 * rflo0F y 100)) = y % 100 := by
 have e1 : IntKind.i64.wrap (100 * (y / 100)) = 100 * (y / 100) := wrapS (by omega) (by omega)
 rw [rflo_val y 100 (by omega) (by omega) (by omega), e1, wrapS (by omega) (by omega)]
 omega
theorem h12 {ho : Int} (h0 : 0 ≤ ho) (h1 : ho ≤ 23) : IntKind.i64.wrap (Int.tmod (IntKind.i64.wrap (ho + 11)) 12 + 1) = (ho + 11) % 12 + 1 := by
 have e1 : IntKind.i64.wrap (ho + 11) = ho + 11 := wrapS (by omega) (by omega)
 rw [e1, Int.tmod_eq_emod_of_nonneg (by omega), wrapS (by omega) (by omega)]
theorem pad_all (c : UInt8) {k : Int} (h0 : 0 ≤ k) (h1 : k ≤ 1000000) : DirOf (((ByteArray.mk #[]) ++ (repF (ByteArray.mk #[c]) (rpK 2 (itoaF k).size))) ++ (itoaF k)) (bif decide (((((itoaF k).size : Nat)) : Int) < 2) then (ByteArray.mk #[c]) ++ itoaF k else itoaF k)
  ((!(decide (k < 0))) && (i64F k && (repOkF (ByteArray.mk (List.toArray [c])) (rpK 2 (itoaF k).size) && (decide (((((ByteArray.mk #[]).size + (repF (ByteArray.mk #[c]) (rpK 2 (itoaF k).size)).size : Nat)) : Int) ≤ Int.ofNat (9223372036854775808 - 1)) && (decide ((((((ByteArray.mk #[]) ++ repF (ByteArray.mk #[c]) (rpK 2 (itoaF k).size)).size + (itoaF k).size : Nat)) : Int) ≤ Int.ofNat (9223372036854775808 - 1)) && true)))))
  (i64F k && (bif decide (((((itoaF k).size : Nat)) : Int) < 2) then (decide ((((((ByteArray.mk #[c]).size + (itoaF k).size) : Nat) : Int)) ≤ Int.ofNat (9223372036854775808 - 1)) && ((!(decide ((((((ByteArray.mk #[c]) ++ itoaF k).size : Nat) : Int)) < 2))) && true)) else true)) := by
 have hi := i64_of (k := k) (by omega) (by omega)
 obtain ⟨z1, z2⟩ := itoa_sz hi
 have d0 : decide (k < 0) = false := decide_eq_false (by omega)
 have p := pad2 c ⟨#[]⟩ (itoaF k) z1 z2 (by decide)
 have r := pad_r c (itoaF k) z1 z2
 refine ⟨p.e.trans (ba_e _), ?_, ?_, r.2.1, by have := r.2.2; omega⟩
 ·rw [d0, hi, p.k, p.s1, p.s2]; rfl
 ·rw [hi, r.1]; rfl
def cA (Y M D ho mi n : Int) {α : Type} (f : MoF α) : α := f Y M D ho mi (Clk.fo (n % 60)) (wdF (n / 86400)) (n / 86400 - Clk.number Y 0 1) n (cwks0F (n / 86400)) (cwks1F (n / 86400)) (cwks2F (n / 86400)) (cwks3F (n / 86400))
section
variable {Y M D ho mi : Int} {S : Nat} {n : Int} (E : EnvOf Y M D ho mi S n) (W0 J0 : Int)
include E
theorem pl_72 : DirOf (cA Y M D ho mi n wt_72F) (p72_0F Y M D ho mi S W0 J0 n) ((cA Y M D ho mi n dHOkF == true)) (p72_OkF Y M D ho mi S W0 J0 n) := by
 have q := E.all
 have wk := E.wk
 have q2 := wk.all
 have t := two_all (k := ho) (by omega) (by omega)
 refine ⟨?_, ?_, ?_, ?_, ?_⟩
 ·simp only [cA, wt_72F, dH0F, dHOkF, p72_0F, E.f]
  try exact t.e
 ·simp only [cA, dH0F, dHOkF, E.f, t.c, E.fr, E.fo, Bool.and_self, beq_self_eq_true]
 ·simp only [p72_OkF, E.f, E.ra, wk.ok, t.r, E.fr, E.fo, Bool.and_self]
 ·simp only [p72_0F, E.f]
  exact t.lo
 ·simp only [p72_0F, E.f]
  exact t.hi
theorem pl_77 : DirOf (cA Y M D ho mi n wt_77F) (p77_0F Y M D ho mi S W0 J0 n) ((cA Y M D ho mi n dMOkF == true)) (p77_OkF Y M D ho mi S W0 J0 n) := by
 have q := E.all
 have wk := E.wk
 have q2 := wk.all
 have t := two_all (k := mi) (by omega) (by omega)
 refine ⟨?_, ?_, ?_, ?_, ?_⟩
 ·simp only [cA, wt_77F, dM0F, dMOkF, p77_0F, E.f]
  try exact t.e
 ·simp only [cA, dM0F, dMOkF, E.f, t.c, E.fr, E.fo, Bool.and_self, beq_self_eq_true]
 ·simp only [p77_OkF, E.f, E.ra, wk.ok, t.r, E.fr, E.fo, Bool.and_self]
 ·simp only [p77_0F, E.f]
  exact t.lo
 ·simp only [p77_0F, E.f]
  exact t.hi
theorem pl_100 : DirOf (cA Y M D ho mi n wt_100F) (p100_0F Y M D ho mi S W0 J0 n) ((cA Y M D ho mi n ddOkF == true)) (p100_OkF Y M D ho mi S W0 J0 n) := by
 have q := E.all
 have wk := E.wk
 have q2 := wk.all
 have t := two_all (k := D) (by omega) (by omega)
 refine ⟨?_, ?_, ?_, ?_, ?_⟩
 ·simp only [cA, wt_100F, dd0F, ddOkF, p100_0F, E.f]
  try exact t.e
 ·simp only [cA, dd0F, ddOkF, E.f, t.c, E.fr, E.fo, Bool.and_self, beq_self_eq_true]
 ·simp only [p100_OkF, E.f, E.ra, wk.ok, t.r, E.fr, E.fo, Bool.and_self]
 ·simp only [p100_0F, E.f]
  exact t.lo
 ·simp only [p100_0F, E.f]
  exact t.hi
theorem pl_109 : DirOf (cA Y M D ho mi n wt_109F) (p109_0F Y M D ho mi S W0 J0 n) ((cA Y M D ho mi n dmOkF == true)) (p109_OkF Y M D ho mi S W0 J0 n) := by
 have q := E.all
 have wk := E.wk
 have q2 := wk.all
 have e : IntKind.i64.wrap (M + 1) = M + 1 := wrapS (by omega) (by omega)
 have t := two_all (k := M + 1) (by omega) (by omega)
 refine ⟨?_, ?_, ?_, ?_, ?_⟩
 ·simp only [cA, wt_109F, dm0F, dmOkF, p109_0F, E.f, e]
  try exact t.e
 ·simp only [cA, dm0F, dmOkF, E.f, e, t.c, E.fr, E.fo, Bool.and_self, beq_self_eq_true]
 ·simp only [p109_OkF, E.f, E.ra, wk.ok, e, t.r, E.fr, E.fo, Bool.and_self]
 ·simp only [p109_0F, E.f, e]
  exact t.lo
 ·simp only [p109_0F, E.f, e]
  exact t.hi
theorem pl_73 : DirOf (cA Y M D ho mi n wt_73F) (p73_0F Y M D ho mi S W0 J0 n) ((cA Y M D ho mi n dIOkF == true)) (p73_OkF Y M D ho mi S W0 J0 n) := by
 have q := E.all
 have wk := E.wk
 have q2 := wk.all
 have e := h12 (ho := ho) (by omega) (by omega)
 have t := two_all (k := (ho + 11) % 12 + 1) (by omega) (by omega)
 refine ⟨?_, ?_, ?_, ?_, ?_⟩
 ·simp only [cA, wt_73F, dI0F, dIOkF, p73_0F, E.f, e]
  try exact t.e
 ·simp only [cA, dI0F, dIOkF, E.f, e, t.c, E.fr, E.fo, Bool.and_self, beq_self_eq_true]
 ·simp only [p73_OkF, E.f, E.ra, wk.ok, e, t.r, E.fr, E.fo, Bool.and_self]
 ·simp only [p73_0F, E.f, e]
  exact t.lo
 ·simp only [p73_0F, E.f, e]
  exact t.hi
theorem pl_121 : DirOf (cA Y M D ho mi n wt_121F) (p121_0F Y M D ho mi S W0 J0 n) (((ctwoOkF (dcen1F Y)) == true)) (p121_OkF Y M D ho mi S W0 J0 n) := by
 have q := E.all
 have wk := E.wk
 have q2 := wk.all
 have e := cen1_val (y := Y) (by omega) (by omega)
 have e' := rcen1_val (y := Y) (by omega) (by omega)
 have t := two_all (k := Y % 100) (by omega) (by omega)
 refine ⟨?_, ?_, ?_, ?_, ?_⟩
 ·simp only [cA, wt_121F, p121_0F, E.f, e, e']
  try exact t.e
 ·simp only [cA, E.f, e, e', t.c, E.fr, E.fo, Bool.and_self, beq_self_eq_true]
 ·simp only [p121_OkF, E.f, E.ra, wk.ok, e, e', t.r, E.fr, E.fo, Bool.and_self]
 ·simp only [p121_0F, E.f, e, e']
  exact t.lo
 ·simp only [p121_0F, E.f, e, e']
  exact t.hi
theorem pl_103 : DirOf (cA Y M D ho mi n wt_103F) (p103_0F Y M D ho mi S W0 J0 n) (((ctwoOkF (dcen1F (cwks0F (n / 86400)))) == true)) (p103_OkF Y M D ho mi S W0 J0 n) := by
 have q := E.all
 have wk := E.wk
 have q2 := wk.all
 have e := cen1_val (y := rwks0F (n / 86400)) (by omega) (by omega)
 have e' := rcen1_val (y := rwks0F (n / 86400)) (by omega) (by omega)
 have t := two_all (k := rwks0F (n / 86400) % 100) (by omega) (by omega)
 refine ⟨?_, ?_, ?_, ?_, ?_⟩
 ·simp only [cA, wt_103F, p103_0F, E.f, wk.e0, e, e']
  try exact t.e
 ·simp only [cA, E.f, wk.e0, e, e', t.c, E.fr, E.fo, Bool.and_self, beq_self_eq_true]
 ·simp only [p103_OkF, E.f, E.ra, wk.ok, wk.e0, e, e', t.r, E.fr, E.fo, Bool.and_self]
 ·simp only [p103_0F, E.f, wk.e0, e, e']
  exact t.lo
 ·simp only [p103_0F, E.f, wk.e0, e, e']
  exact t.hi
theorem pl_83 : DirOf (cA Y M D ho mi n wt_83F) (p83_0F Y M D ho mi S W0 J0 n) ((cA Y M D ho mi n dSOkF == true)) (p83_OkF Y M D ho mi S W0 J0 n) := by
 have q := E.all
 have wk := E.wk
 have q2 := wk.all
 have e1 : f2i .f64 (fround .down (Clk.fo (n % 60))) = n % 60 := by rw [Clk.fround_fo _ (by omega), Clk.f2i_fo _ (by omega)]
 have e2 : froundOk (Clk.fo (n % 60)) = true := Clk.froundOk_fo _ (by omega)
 have e3 : f2iOk .f64 (fround .down (Clk.fo (n % 60))) .i64 = true := by rw [Clk.fround_fo _ (by omega)]; exact Clk.f2iOk_fo _ (by omega)
 have t := two_all (k := n % 60) (by omega) (by omega)
 refine ⟨?_, ?_, ?_, ?_, ?_⟩
 ·simp only [cA, wt_83F, dS0F, dSOkF, p83_0F, E.f, E.fs, e1, e2, e3]
  try exact t.e
 ·simp only [cA, dS0F, dSOkF, E.f, E.fs, e1, e2, e3, t.c, E.fr, E.fo, Bool.and_self, beq_self_eq_true]
 ·simp only [p83_OkF, E.f, E.ra, wk.ok, E.fs, e1, e2, e3, t.r, E.fr, E.fo, Bool.and_self]
 ·simp only [p83_0F, E.f, E.fs, e1, e2, e3]
  exact t.lo
 ·simp only [p83_0F, E.f, E.fs, e1, e2, e3]
  exact t.hi
theorem pl_85 : DirOf (cA Y M D ho mi n wt_85F) (p85_0F Y M D ho mi S W0 J0 n) ((cA Y M D ho mi n dUOkF == true)) (p85_OkF Y M D ho mi S W0 J0 n) := by
 have q := E.all
 have wk := E.wk
 have q2 := wk.all
 have t := two_all (k := rwks2F (n / 86400)) (by omega) (by omega)
 refine ⟨?_, ?_, ?_, ?_, ?_⟩
 ·simp only [cA, wt_85F, dU0F, dUOkF, p85_0F, E.f, wk.e2]
  try exact t.e
 ·simp only [cA, dU0F, dUOkF, E.f, wk.e2, t.c, E.fr, E.fo, Bool.and_self, beq_self_eq_true]
 ·simp only [p85_OkF, E.f, E.ra, wk.ok, wk.e2, t.r, E.fr, E.fo, Bool.and_self]
 ·simp only [p85_0F, E.f, wk.e2]
  exact t.lo
 ·simp only [p85_0F, E.f, wk.e2]
  exact t.hi
theorem pl_87 : DirOf (cA Y M D ho mi n wt_87F) (p87_0F Y M D ho mi S W0 J0 n) ((cA Y M D ho mi n dWOkF == true)) (p87_OkF Y M D ho mi S W0 J0 n) := by
 have q := E.all
 have wk := E.wk
 have q2 := wk.all
 have t := two_all (k := rwks3F (n / 86400)) (by omega) (by omega)
 refine ⟨?_, ?_, ?_, ?_, ?_⟩
 ·simp only [cA, wt_87F, dW0F, dWOkF, p87_0F, E.f, wk.e3]
  try exact t.e
 ·simp only [cA, dW0F, dWOkF, E.f, wk.e3, t.c, E.fr, E.fo, Bool.and_self, beq_self_eq_true]
 ·simp only [p87_OkF, E.f, E.ra, wk.ok, wk.e3, t.r, E.fr, E.fo, Bool.and_self]
 ·simp only [p87_0F, E.f, wk.e3]
  exact t.lo
 ·simp only [p87_0F, E.f, wk.e3]
  exact t.hi
theorem pl_86 : DirOf (cA Y M D ho mi n wt_86F) (p86_0F Y M D ho mi S W0 J0 n) ((cA Y M D ho mi n dVOkF == true)) (p86_OkF Y M D ho mi S W0 J0 n) := by
 have q := E.all
 have wk := E.wk
 have q2 := wk.all
 have t := two_all (k := rwks1F (n / 86400)) (by omega) (by omega)
 refine ⟨?_, ?_, ?_, ?_, ?_⟩
 ·simp only [cA, wt_86F, dV0F, dVOkF, p86_0F, E.f, wk.e1]
  try exact t.e
 ·simp only [cA, dV0F, dVOkF, E.f, wk.e1, t.c, E.fr, E.fo, Bool.and_self, beq_self_eq_true]
 ·simp only [p86_OkF, E.f, E.ra, wk.ok, wk.e1, t.r, E.fr, E.fo, Bool.and_self]
 ·simp only [p86_0F, E.f, wk.e1]
  exact t.lo
 ·simp only [p86_0F, E.f, wk.e1]
  exact t.hi
theorem pl_89 : DirOf (cA Y M D ho mi n wt_89F) (p89_0F Y M D ho mi S W0 J0 n) ((cA Y M D ho mi n dYOkF == true)) (p89_OkF Y M D ho mi S W0 J0 n) := by
 have q := E.all
 have wk := E.wk
 have q2 := wk.all
 have t := itoa_all (k := Y) (by omega) (by omega)
 refine ⟨?_, ?_, ?_, ?_, ?_⟩
 ·simp only [cA, wt_89F, dY0F, dYOkF, p89_0F, E.f]
  try exact t.e
 ·simp only [cA, dY0F, dYOkF, E.f, t.c, E.fr, E.fo, Bool.and_self, beq_self_eq_true]
 ·simp only [p89_OkF, E.f, E.ra, wk.ok, t.r, E.fr, E.fo, Bool.and_self]
 ·simp only [p89_0F, E.f]
  exact t.lo
 ·simp only [p89_0F, E.f]
  exact t.hi
theorem pl_119 : DirOf (cA Y M D ho mi n wt_119F) (p119_0F Y M D ho mi S W0 J0 n) ((cA Y M D ho mi n dwOkF == true)) (p119_OkF Y M D ho mi S W0 J0 n) := by
 have q := E.all
 have wk := E.wk
 have q2 := wk.all
 have e : Int.tmod (IntKind.i64.wrap (Int.tmod (IntKind.i64.wrap (n / 86400 + 4)) 7 + 7)) 7 = wdF (n / 86400) := by have := E.wd; unfold rwdF at this; rw [E.f] at this; exact this
 have t := itoa_all (k := wdF (n / 86400)) (by omega) (by omega)
 refine ⟨?_, ?_, ?_, ?_, ?_⟩
 ·simp only [cA, wt_119F, dw0F, dwOkF, p119_0F, E.f, e]
  try exact t.e
 ·simp only [cA, dw0F, dwOkF, E.f, e, t.c, E.fr, E.fo, Bool.and_self, beq_self_eq_true]
 ·simp only [p119_OkF, E.f, E.ra, wk.ok, e, t.r, E.fr, E.fo, Bool.and_self]
 ·simp only [p119_0F, E.f, e]
  exact t.lo
 ·simp only [p119_0F, E.f, e]
  exact t.hi
theorem pl_117 : DirOf (cA Y M D ho mi n wt_117F) (p117_0F Y M D ho mi S W0 J0 n) ((cA Y M D ho mi n duOkF == true)) (p117_OkF Y M D ho mi S W0 J0 n) := by
 have q := E.all
 have wk := E.wk
 have q2 := wk.all
 have e : Int.tmod (IntKind.i64.wrap (Int.tmod (IntKind.i64.wrap (n / 86400 + 4)) 7 + 7)) 7 = wdF (n / 86400) := by have := E.wd; unfold rwdF at this; rw [E.f] at this; exact this
 have e3 : IntKind.i64.wrap (wdF (n / 86400) + 6) = wdF (n / 86400) + 6 := wrapS (by omega) (by omega)
 have e2 : IntKind.i64.wrap (Int.tmod (IntKind.i64.wrap (wdF (n / 86400) + 6)) 7 + 1) = (wdF (n / 86400) + 6) % 7 + 1 := by rw [e3, Int.tmod_eq_emod_of_nonneg (by omega), wrapS (by omega) (by omega)]
 have t := itoa_all (k := (wdF (n / 86400) + 6) % 7 + 1) (by omega) (by omega)
 refine ⟨?_, ?_, ?_, ?_, ?_⟩
 ·simp only [cA, wt_117F, du0F, duOkF, p117_0F, E.f, e, e2]
  try exact t.e
 ·simp only [cA, du0F, duOkF, E.f, e, e2, t.c, E.fr, E.fo, Bool.and_self, beq_self_eq_true]
 ·simp only [p117_OkF, E.f, E.ra, wk.ok, e, e2, t.r, E.fr, E.fo, Bool.and_self]
 ·simp only [p117_0F, E.f, e, e2]
  exact t.lo
 ·simp only [p117_0F, E.f, e, e2]
  exact t.hi
theorem pl_71 : DirOf (cA Y M D ho mi n wt_71F) (p71_0F Y M D ho mi S W0 J0 n) ((cA Y M D ho mi n dGOkF == true)) (p71_OkF Y M D ho mi S W0 J0 n) := by
 have q := E.all
 have wk := E.wk
 have q2 := wk.all
 have t := itoa_all (k := rwks0F (n / 86400)) (by omega) (by omega)
 refine ⟨?_, ?_, ?_, ?_, ?_⟩
 ·simp only [cA, wt_71F, dG0F, dGOkF, p71_0F, E.f, wk.e0]
  try exact t.e
 ·simp only [cA, dG0F, dGOkF, E.f, wk.e0, t.c, E.fr, E.fo, Bool.and_self, beq_self_eq_true]
 ·simp only [p71_OkF, E.f, E.ra, wk.ok, wk.e0, t.r, E.fr, E.fo, Bool.and_self]
 ·simp only [p71_0F, E.f, wk.e0]
  exact t.lo
 ·simp only [p71_0F, E.f, wk.e0]
  exact t.hi
theorem pl_115 : DirOf (cA Y M D ho mi n wt_115F) (p115_0F Y M D ho mi S W0 J0 n) ((cA Y M D ho mi n dsOkF == true)) (p115_OkF Y M D ho mi S W0 J0 n) := by
 have q := E.all
 have wk := E.wk
 have q2 := wk.all
 have t := itoa_all (k := n) (by omega) (by omega)
 refine ⟨?_, ?_, ?_, ?_, ?_⟩
 ·simp only [cA, wt_115F, ds0F, dsOkF, p115_0F, E.f]
  try exact t.e
 ·simp only [cA, ds0F, dsOkF, E.f, t.c, E.fr, E.fo, Bool.and_self, beq_self_eq_true]
 ·simp only [p115_OkF, E.f, E.ra, wk.ok, t.r, E.fr, E.fo, Bool.and_self]
 ·simp only [p115_0F, E.f]
  exact t.lo
 ·simp only [p115_0F, E.f]
  exact t.hi
theorem pl_101 : DirOf (cA Y M D ho mi n wt_101F) (p101_0F Y M D ho mi S W0 J0 n) ((cA Y M D ho mi n deOkF == true)) (p101_OkF Y M D ho mi S W0 J0 n) := by
 have q := E.all
 have wk := E.wk
 have q2 := wk.all
 have t := pad_all 32 (k := D) (by omega) (by omega)
 unfold rpK at t
 refine ⟨?_, ?_, ?_, ?_, ?_⟩
 ·simp only [cA, wt_101F, de0F, deOkF, p101_0F, E.f]
  try exact t.e
 ·simp only [cA, de0F, deOkF, E.f, t.c, E.fr, E.fo, Bool.and_self, beq_self_eq_true]
 ·simp only [p101_OkF, E.f, E.ra, wk.ok, Bool.true_and]
  exact t.r
 ·simp only [p101_0F, E.f]
  exact t.lo
 ·simp only [p101_0F, E.f]
  exact t.hi
theorem pl_107 : DirOf (cA Y M D ho mi n wt_107F) (p107_0F Y M D ho mi S W0 J0 n) ((cA Y M D ho mi n dkOkF == true)) (p107_OkF Y M D ho mi S W0 J0 n) := by
 have q := E.all
 have wk := E.wk
 have q2 := wk.all
 have t := pad_all 32 (k := ho) (by omega) (by omega)
 unfold rpK at t
 refine ⟨?_, ?_, ?_, ?_, ?_⟩
 ·simp only [cA, wt_107F, dk0F, dkOkF, p107_0F, E.f]
  try exact t.e
 ·simp only [cA, dk0F, dkOkF, E.f, t.c, E.fr, E.fo, Bool.and_self, beq_self_eq_true]
 ·simp only [p107_OkF, E.f, E.ra, wk.ok, Bool.true_and]
  exact t.r
 ·simp only [p107_0F, E.f]
  exact t.lo
 ·simp only [p107_0F, E.f]
  exact t.hi
theorem pl_108 : DirOf (cA Y M D ho mi n wt_108F) (p108_0F Y M D ho mi S W0 J0 n) ((cA Y M D ho mi n dlOkF == true)) (p108_OkF Y M D ho mi S W0 J0 n) := by
 have q := E.all
 have wk := E.wk
 have q2 := wk.all
 have e := h12 (ho := ho) (by omega) (by omega)
 have t := pad_all 32 (k := (ho + 11) % 12 + 1) (by omega) (by omega)
 unfold rpK at t
 refine ⟨?_, ?_, ?_, ?_, ?_⟩
 ·simp only [cA, wt_108F, dl0F, dlOkF, p108_0F, E.f, e]
  try exact t.e
 ·simp only [cA, dl0F, dlOkF, E.f, e, t.c, E.fr, E.fo, Bool.and_self, beq_self_eq_true]
 ·simp only [p108_OkF, E.f, E.ra, wk.ok, e, Bool.true_and]
  exact t.r
 ·simp only [p108_0F, E.f, e]
  exact t.lo
 ·simp only [p108_0F, E.f, e]
  exact t.hi
theorem pl_106 : DirOf (cA Y M D ho mi n wt_106F) (p106_0F Y M D ho mi S W0 J0 n) ((cA Y M D ho mi n djOkF == true)) (p106_OkF Y M D ho mi S W0 J0 n) := by
 have j0 := E.j0
 have j1 := E.j1
 have e : IntKind.i64.wrap (n / 86400 - Clk.number Y 0 1 + 1) = n / 86400 - Clk.number Y 0 1 + 1 := wrapS (by omega) (by omega)
 have hi := i64_of (k := n / 86400 - Clk.number Y 0 1 + 1) (by omega) (by omega)
 obtain ⟨z1, z2⟩ := itoa_sz hi
 have d0 : decide (n / 86400 - Clk.number Y 0 1 + 1 < 0) = false := decide_eq_false (by omega)
 have p := pad3 48 ⟨#[]⟩ (itoaF (n / 86400 - Clk.number Y 0 1 + 1)) z1 z2 (by decide)
 have hp : (pad3F (itoaF (n / 86400 - Clk.number Y 0 1 + 1))).size ≤ 23 ∧ 1 ≤ (pad3F (itoaF (n / 86400 - Clk.number Y 0 1 + 1))).size := by
  generalize itoaF (n / 86400 - Clk.number Y 0 1 + 1) = s at z1 z2
  have hcs : (⟨#[48]⟩ ++ s : ByteArray).size = 1 + s.size := by rw [ByteArray.size_append]; rfl
  have hcs2 : (⟨#[48]⟩ ++ (⟨#[48]⟩ ++ s) : ByteArray).size = 1 + (1 + s.size) := by rw [ByteArray.size_append, hcs]; rfl
  unfold pad3F
  cases decide (((s.size : Nat) : Int) < 3) with
  | false => simp only [cond_false]; omega
  | true =>
   cases decide ((((⟨#[48]⟩ ++ s : ByteArray).size : Nat) : Int) < 3) with
   | false => simp only [cond_true, cond_false]; omega
   | true => simp only [cond_true]; omega
 refine ⟨?_, ?_, ?_, ?_, ?_⟩
 ·simp only [cA, wt_106F, dj0F, p106_0F, E.yd, e]
  exact p.e.trans (ba_e _)
 ·have a := p.k
  have b := p.s1
  have c := p.s2
  unfold rpK at a b c
  simp only [cA, djOkF, e, d0, hi, a, b, c, Bool.not_false, Bool.and_self, beq_self_eq_true]
 ·simp only [p106_OkF, E.f, E.ra, E.wk.ok, E.yd, hi, Bool.and_self]
 ·simp only [p106_0F, E.yd]
  exact hp.2
 ·simp only [p106_0F, E.yd]
  exact hp.1
theorem pl_67 : DirOf (cA Y M D ho mi n wt_67F) (p67_0F Y M D ho mi S W0 J0 n) (((ctwoOkF (dcen0F Y)) == true)) (p67_OkF Y M D ho mi S W0 J0 n) := by
 have y0 := E.y0
 have y1 := E.y1
 have e : dcen0F Y = rflo0F Y 100 := rfl
 have f := rflo_val Y 100 (by omega) (by omega) (by omega)
 by_cases q : Y / 100 < 0
 ·have t := two_neg (k := Y / 100) q (by omega)
  have g : decide (Y / 100 < 0) = true := decide_eq_true q
  refine ⟨?_, ?_, ?_, ?_, ?_⟩
  ·simp only [cA, wt_67F, p67_0F, e, f, g, cond_true]
   exact t.e
  ·rw [e, f, t.c]; rfl
  ·simp only [p67_OkF, E.f, E.ra, E.wk.ok, f, g, cond_true, Bool.true_and]
   exact t.r
  ·simp only [p67_0F, f, g, cond_true]
   exact t.lo
  ·simp only [p67_0F, f, g, cond_true]
   exact t.hi
 ·have t := two_all (k := Y / 100) (by omega) (by omega)
  have g : decide (Y / 100 < 0) = false := decide_eq_false q
  refine ⟨?_, ?_, ?_, ?_, ?_⟩
  ·simp only [cA, wt_67F, p67_0F, e, f, g, cond_false]
   exact t.e
  ·rw [e, f, t.c]; rfl
  ·simp only [p67_OkF, E.f, E.ra, E.wk.ok, f, g, cond_false, t.r, Bool.and_self]
  ·simp only [p67_0F, f, g, cond_false]
   exact t.lo
  ·simp only [p67_0F, f, g, cond_false]
   exact t.hi
theorem pl_97 : DirOf (cA Y M D ho mi n wt_97F) (p97_0F Y M D ho mi S W0 J0 n) ((cA Y M D ho mi n daOkF == true)) (p97_OkF Y M D ho mi S W0 J0 n) := by
 have b0 := E.w0
 have b1 := E.w1
 have hb : decide (0 ≤ wdF (n / 86400)) = true := decide_eq_true b0
 have hb2 : decide (wdF (n / 86400) ≤ 6) = true := decide_eq_true b1
 have hz : ∀ k : Int, 0 ≤ k → k ≤ 6 → 1 ≤ (d3F (dayF k)).size ∧ (d3F (dayF k)).size ≤ 23 := by
  intro k k0 k1
  have h : k = 0 ∨ k = 1 ∨ k = 2 ∨ k = 3 ∨ k = 4 ∨ k = 5 ∨ k = 6 := by omega
  rcases h with rfl | rfl | rfl | rfl | rfl | rfl | rfl <;> decide
 have z := hz (wdF (n / 86400)) b0 b1
 refine ⟨?_, ?_, ?_, ?_, ?_⟩
 ·simp only [cA, wt_97F, da0F, p97_0F, E.wd]
 ·simp only [cA, daOkF, hb, hb2, Bool.and_self, beq_self_eq_true]
 ·simp only [p97_OkF, E.f, E.ra, E.wk.ok, E.wd, hb, hb2, Bool.and_self]
 ·simp only [p97_0F, E.wd]
  exact z.1
 ·simp only [p97_0F, E.wd]
  exact z.2
theorem pl_65 : DirOf (cA Y M D ho mi n wt_65F) (p65_0F Y M D ho mi S W0 J0 n) ((cA Y M D ho mi n dAOkF == true)) (p65_OkF Y M D ho mi S W0 J0 n) := by
 have b0 := E.w0
 have b1 := E.w1
 have hb : decide (0 ≤ wdF (n / 86400)) = true := decide_eq_true b0
 have hb2 : decide (wdF (n / 86400) ≤ 6) = true := decide_eq_true b1
 have hz : ∀ k : Int, 0 ≤ k → k ≤ 6 → 1 ≤ (dayF k).size ∧ (dayF k).size ≤ 23 := by
  intro k k0 k1
  have h : k = 0 ∨ k = 1 ∨ k = 2 ∨ k = 3 ∨ k = 4 ∨ k = 5 ∨ k = 6 := by omega
  rcases h with rfl | rfl | rfl | rfl | rfl | rfl | rfl <;> decide
 have z := hz (wdF (n / 86400)) b0 b1
 refine ⟨?_, ?_, ?_, ?_, ?_⟩
 ·simp only [cA, wt_65F, dA0F, p65_0F, E.wd]
 ·simp only [cA, dAOkF, hb, hb2, Bool.and_self, beq_self_eq_true]
 ·simp only [p65_OkF, E.f, E.ra, E.wk.ok, E.wd, hb, hb2, Bool.and_self]
 ·simp only [p65_0F, E.wd]
  exact z.1
 ·simp only [p65_0F, E.wd]
  exact z.2
theorem pl_98 : DirOf (cA Y M D ho mi n wt_98F) (p98_0F Y M D ho mi S W0 J0 n) ((cA Y M D ho mi n dmonOkF == true)) (p98_OkF Y M D ho mi S W0 J0 n) := by
 have b0 := E.m0
 have b1 := E.m1
 have hb : decide (0 ≤ M) = true := decide_eq_true b0
 have hb2 : decide (M ≤ 11) = true := decide_eq_true b1
 have hz : ∀ k : Int, 0 ≤ k → k ≤ 11 → 1 ≤ (d3F (monF k)).size ∧ (d3F (monF k)).size ≤ 23 := by
  intro k k0 k1
  have h : k = 0 ∨ k = 1 ∨ k = 2 ∨ k = 3 ∨ k = 4 ∨ k = 5 ∨ k = 6 ∨ k = 7 ∨ k = 8 ∨ k = 9 ∨ k = 10 ∨ k = 11 := by omega
  rcases h with rfl | rfl | rfl | rfl | rfl | rfl | rfl | rfl | rfl | rfl | rfl | rfl <;> decide
 have z := hz (M) b0 b1
 refine ⟨?_, ?_, ?_, ?_, ?_⟩
 ·simp only [cA, wt_98F, dmon0F, p98_0F, E.wd]
 ·simp only [cA, dmonOkF, hb, hb2, Bool.and_self, beq_self_eq_true]
 ·simp only [p98_OkF, E.f, E.ra, E.wk.ok, E.wd, hb, hb2, Bool.and_self]
 ·simp only [p98_0F, E.wd]
  exact z.1
 ·simp only [p98_0F, E.wd]
  exact z.2
theorem pl_104 : DirOf (cA Y M D ho mi n wt_104F) (p104_0F Y M D ho mi S W0 J0 n) ((cA Y M D ho mi n dmonOkF == true)) (p104_OkF Y M D ho mi S W0 J0 n) := by
 have b0 := E.m0
 have b1 := E.m1
 have hb : decide (0 ≤ M) = true := decide_eq_true b0
 have hb2 : decide (M ≤ 11) = true := decide_eq_true b1
 have hz : ∀ k : Int, 0 ≤ k → k ≤ 11 → 1 ≤ (d3F (monF k)).size ∧ (d3F (monF k)).size ≤ 23 := by
  intro k k0 k1
  have h : k = 0 ∨ k = 1 ∨ k = 2 ∨ k = 3 ∨ k = 4 ∨ k = 5 ∨ k = 6 ∨ k = 7 ∨ k = 8 ∨ k = 9 ∨ k = 10 ∨ k = 11 := by omega
  rcases h with rfl | rfl | rfl | rfl | rfl | rfl | rfl | rfl | rfl | rfl | rfl | rfl <;> decide
 have z := hz (M) b0 b1
 refine ⟨?_, ?_, ?_, ?_, ?_⟩
 ·simp only [cA, wt_104F, dmon0F, p104_0F, E.wd]
 ·simp only [cA, dmonOkF, hb, hb2, Bool.and_self, beq_self_eq_true]
 ·simp only [p104_OkF, E.f, E.ra, E.wk.ok, E.wd, hb, hb2, Bool.and_self]
 ·simp only [p104_0F, E.wd]
  exact z.1
 ·simp only [p104_0F, E.wd]
  exact z.2
theorem pl_66 : DirOf (cA Y M D ho mi n wt_66F) (p66_0F Y M D ho mi S W0 J0 n) ((cA Y M D ho mi n dBOkF == true)) (p66_OkF Y M D ho mi S W0 J0 n) := by
 have b0 := E.m0
 have b1 := E.m1
 have hb : decide (0 ≤ M) = true := decide_eq_true b0
 have hb2 : decide (M ≤ 11) = true := decide_eq_true b1
 have hz : ∀ k : Int, 0 ≤ k → k ≤ 11 → 1 ≤ (monF k).size ∧ (monF k).size ≤ 23 := by
  intro k k0 k1
  have h : k = 0 ∨ k = 1 ∨ k = 2 ∨ k = 3 ∨ k = 4 ∨ k = 5 ∨ k = 6 ∨ k = 7 ∨ k = 8 ∨ k = 9 ∨ k = 10 ∨ k = 11 := by omega
  rcases h with rfl | rfl | rfl | rfl | rfl | rfl | rfl | rfl | rfl | rfl | rfl | rfl <;> decide
 have z := hz (M) b0 b1
 refine ⟨?_, ?_, ?_, ?_, ?_⟩
 ·simp only [cA, wt_66F, dB0F, p66_0F, E.wd]
 ·simp only [cA, dBOkF, hb, hb2, Bool.and_self, beq_self_eq_true]
 ·simp only [p66_OkF, E.f, E.ra, E.wk.ok, E.wd, hb, hb2, Bool.and_self]
 ·simp only [p66_0F, E.wd]
  exact z.1
 ·simp only [p66_0F, E.wd]
  exact z.2
theorem pl_112 : DirOf (bif decide (ho < 12) then cA Y M D ho mi n wt_112aF else cA Y M D ho mi n wt_112bF) (p112_0F Y M D ho mi S W0 J0 n) true (p112_OkF Y M D ho mi S W0 J0 n) := by
 have h0 := E.h0
 have h1 := E.h1
 have e : rhaF ho = ho / 12 := by
  unfold rhaF
  rw [Int.tdiv_eq_ediv_of_nonneg h0, wrapS (by omega) (by omega)]
 by_cases q : ho < 12
 ·have e2 : ho / 12 = 0 := by omega
  refine ⟨?_, rfl, ?_, ?_, ?_⟩
  ·simp only [p112_0F, e, e2, decide_eq_true q, cond_true]
   rfl
  ·simp only [p112_OkF, E.f, E.ra, E.wk.ok, e, e2]
   rfl
  ·simp only [p112_0F, e, e2]
   decide
  ·simp only [p112_0F, e, e2]
   decide
 ·have e2 : ho / 12 = 1 := by omega
  refine ⟨?_, rfl, ?_, ?_, ?_⟩
  ·simp only [p112_0F, e, e2, decide_eq_false q, cond_false]
   rfl
  ·simp only [p112_OkF, E.f, E.ra, E.wk.ok, e, e2]
   rfl
  ·simp only [p112_0F, e, e2]
   decide
  ·simp only [p112_0F, e, e2]
   decide
theorem pl_80 : DirOf (bif decide (ho < 12) then cA Y M D ho mi n wt_80aF else cA Y M D ho mi n wt_80bF) (p80_0F Y M D ho mi S W0 J0 n) true (p80_OkF Y M D ho mi S W0 J0 n) := by
 have h0 := E.h0
 have h1 := E.h1
 have e : rhaF ho = ho / 12 := by
  unfold rhaF
  rw [Int.tdiv_eq_ediv_of_nonneg h0, wrapS (by omega) (by omega)]
 by_cases q : ho < 12
 ·have e2 : ho / 12 = 0 := by omega
  refine ⟨?_, rfl, ?_, ?_, ?_⟩
  ·simp only [p80_0F, e, e2, decide_eq_true q, cond_true]
   rfl
  ·simp only [p80_OkF, E.f, E.ra, E.wk.ok, e, e2]
   rfl
  ·simp only [p80_0F, e, e2]
   decide
  ·simp only [p80_0F, e, e2]
   decide
 ·have e2 : ho / 12 = 1 := by omega
  refine ⟨?_, rfl, ?_, ?_, ?_⟩
  ·simp only [p80_0F, e, e2, decide_eq_false q, cond_false]
   rfl
  ·simp only [p80_OkF, E.f, E.ra, E.wk.ok, e, e2]
   rfl
  ·simp only [p80_0F, e, e2]
   decide
  ·simp only [p80_0F, e, e2]
   decide
theorem pl_110 : DirOf (cA Y M D ho mi n wt_110F) (p110_0F Y M D ho mi S W0 J0 n) (true) (p110_OkF Y M D ho mi S W0 J0 n) := by
 refine ⟨rfl, rfl, ?_, ?_, ?_⟩
 ·simp only [p110_OkF, E.f, E.ra, E.wk.ok, Bool.and_self]
 ·unfold p110_0F; decide
 ·unfold p110_0F; decide
theorem pl_116 : DirOf (cA Y M D ho mi n wt_116F) (p116_0F Y M D ho mi S W0 J0 n) (true) (p116_OkF Y M D ho mi S W0 J0 n) := by
 refine ⟨rfl, rfl, ?_, ?_, ?_⟩
 ·simp only [p116_OkF, E.f, E.ra, E.wk.ok, Bool.and_self]
 ·unfold p116_0F; decide
 ·unfold p116_0F; decide
theorem pl_37 : DirOf (cA Y M D ho mi n wt_37F) (p37_0F Y M D ho mi S W0 J0 n) (true) (p37_OkF Y M D ho mi S W0 J0 n) := by
 refine ⟨rfl, rfl, ?_, ?_, ?_⟩
 ·simp only [p37_OkF, E.f, E.ra, E.wk.ok, Bool.and_self]
 ·unfold p37_0F; decide
 ·unfold p37_0F; decide
theorem pl_122 : DirOf (cA Y M D ho mi n wt_122F) (p122_0F Y M D ho mi S W0 J0 n) (true) (p122_OkF Y M D ho mi S W0 J0 n) := by
 refine ⟨rfl, rfl, ?_, ?_, ?_⟩
 ·simp only [p122_OkF, E.f, E.ra, E.wk.ok, Bool.and_self]
 ·unfold p122_0F; decide
 ·unfold p122_0F; decide
theorem pl_90 : DirOf (cA Y M D ho mi n wt_90F) (p90_0F Y M D ho mi S W0 J0 n) (true) (p90_OkF Y M D ho mi S W0 J0 n) := by
 refine ⟨rfl, rfl, ?_, ?_, ?_⟩
 ·simp only [p90_OkF, E.f, E.ra, E.wk.ok, Bool.and_self]
 ·unfold p90_0F; decide
 ·unfold p90_0F; decide
set_option maxRecDepth 10000 in
theorem pl_in (c : Int) (hin : wcInF c = true) : DirOf (wcTF Y M D ho mi (Clk.fo (n % 60)) (wdF (n / 86400)) (n / 86400 - Clk.number Y 0 1) n (cwks0F (n / 86400)) (cwks1F (n / 86400)) (cwks2F (n / 86400)) (cwks3F (n / 86400)) c) (pieceSF Y M D ho mi S W0 J0 n c) (wcOkF Y M D ho mi (Clk.fo (n % 60)) (wdF (n / 86400)) (n / 86400 - Clk.number Y 0 1) n (cwks0F (n / 86400)) (cwks1F (n / 86400)) (cwks2F (n / 86400)) (cwks3F (n / 86400)) c) (pieceOkF Y M D ho mi S W0 J0 n c) := by
 by_cases h0 : c = 97
 ·subst h0; exact pl_97 E W0 J0
 by_cases h1 : c = 65
 ·subst h1; exact pl_65 E W0 J0
 by_cases h2 : c = 98
 ·subst h2; exact pl_98 E W0 J0
 by_cases h3 : c = 104
 ·subst h3; exact pl_104 E W0 J0
 by_cases h4 : c = 66
 ·subst h4; exact pl_66 E W0 J0
 by_cases h5 : c = 89
 ·subst h5; exact pl_89 E W0 J0
 by_cases h6 : c = 67
 ·subst h6; exact pl_67 E W0 J0
 by_cases h7 : c = 121
 ·subst h7; exact pl_121 E W0 J0
 by_cases h8 : c = 109
 ·subst h8; exact pl_109 E W0 J0
 by_cases h9 : c = 100
 ·subst h9; exact pl_100 E W0 J0
 by_cases h10 : c = 101
 ·subst h10; exact pl_101 E W0 J0
 by_cases h11 : c = 72
 ·subst h11; exact pl_72 E W0 J0
 by_cases h12 : c = 107
 ·subst h12; exact pl_107 E W0 J0
 by_cases h13 : c = 73
 ·subst h13; exact pl_73 E W0 J0
 by_cases h14 : c = 108
 ·subst h14; exact pl_108 E W0 J0
 by_cases h15 : c = 77
 ·subst h15; exact pl_77 E W0 J0
 by_cases h16 : c = 83
 ·subst h16; exact pl_83 E W0 J0
 by_cases h17 : c = 106
 ·subst h17; exact pl_106 E W0 J0
 by_cases h18 : c = 112
 ·subst h18; exact pl_112 E W0 J0
 by_cases h19 : c = 80
 ·subst h19; exact pl_80 E W0 J0
 by_cases h20 : c = 117
 ·subst h20; exact pl_117 E W0 J0
 by_cases h21 : c = 119
 ·subst h21; exact pl_119 E W0 J0
 by_cases h22 : c = 85
 ·subst h22; exact pl_85 E W0 J0
 by_cases h23 : c = 87
 ·subst h23; exact pl_87 E W0 J0
 by_cases h24 : c = 86
 ·subst h24; exact pl_86 E W0 J0
 by_cases h25 : c = 71
 ·subst h25; exact pl_71 E W0 J0
 by_cases h26 : c = 103
 ·subst h26; exact pl_103 E W0 J0
 by_cases h27 : c = 115
 ·subst h27; exact pl_115 E W0 J0
 by_cases h28 : c = 110
 ·subst h28; exact pl_110 E W0 J0
 by_cases h29 : c = 116
 ·subst h29; exact pl_116 E W0 J0
 by_cases h30 : c = 37
 ·subst h30; exact pl_37 E W0 J0
 by_cases h31 : c = 122
 ·subst h31; exact pl_122 E W0 J0
 by_cases h32 : c = 90
 ·subst h32; exact pl_90 E W0 J0
 exfalso
 unfold wcInF at hin
 simp only [h0, h1, h2, h3, h4, h5, h6, h7, h8, h9, h10, h11, h12, h13, h14, h15, h16, h17, h18, h19, h20, h21, h22, h23, h24, h25, h26, h27, h28, h29, h30, h31, h32, if_false] at hin
 cases hin
theorem pl_out (c : Int) (hin : wcInF c = false) : pieceBF c = false ∧ pieceOkF Y M D ho mi S W0 J0 n c = true := by
 have hB : pieceBF c = wcInF c := rfl
 refine ⟨by rw [hB, hin], ?_⟩
 unfold wcInF at hin
 by_cases h0 : c = 97
 ·subst h0; cases hin
 by_cases h1 : c = 65
 ·subst h1; cases hin
 by_cases h2 : c = 98
 ·subst h2; cases hin
 by_cases h3 : c = 104
 ·subst h3; cases hin
 by_cases h4 : c = 66
 ·subst h4; cases hin
 by_cases h5 : c = 89
 ·subst h5; cases hin
 by_cases h6 : c = 67
 ·subst h6; cases hin
 by_cases h7 : c = 121
 ·subst h7; cases hin
 by_cases h8 : c = 109
 ·subst h8; cases hin
 by_cases h9 : c = 100
 ·subst h9; cases hin
 by_cases h10 : c = 101
 ·subst h10; cases hin
 by_cases h11 : c = 72
 ·subst h11; cases hin
 by_cases h12 : c = 107
 ·subst h12; cases hin
 by_cases h13 : c = 73
 ·subst h13; cases hin
 by_cases h14 : c = 108
 ·subst h14; cases hin
 by_cases h15 : c = 77
 ·subst h15; cases hin
 by_cases h16 : c = 83
 ·subst h16; cases hin
 by_cases h17 : c = 106
 ·subst h17; cases hin
 by_cases h18 : c = 112
 ·subst h18; cases hin
 by_cases h19 : c = 80
 ·subst h19; cases hin
 by_cases h20 : c = 117
 ·subst h20; cases hin
 by_cases h21 : c = 119
 ·subst h21; cases hin
 by_cases h22 : c = 85
 ·subst h22; cases hin
 by_cases h23 : c = 87
 ·subst h23; cases hin
 by_cases h24 : c = 86
 ·subst h24; cases hin
 by_cases h25 : c = 71
 ·subst h25; cases hin
 by_cases h26 : c = 103
 ·subst h26; cases hin
 by_cases h27 : c = 115
 ·subst h27; cases hin
 by_cases h28 : c = 110
 ·subst h28; cases hin
 by_cases h29 : c = 116
 ·subst h29; cases hin
 by_cases h30 : c = 37
 ·subst h30; cases hin
 by_cases h31 : c = 122
 ·subst h31; cases hin
 by_cases h32 : c = 90
 ·subst h32; cases hin
 unfold pieceOkF
 simp only [h0, h1, h2, h3, h4, h5, h6, h7, h8, h9, h10, h11, h12, h13, h14, h15, h16, h17, h18, h19, h20, h21, h22, h23, h24, h25, h26, h27, h28, h29, h30, h31, h32, if_false, E.f, E.ra, E.wk.ok, Bool.and_self]
end
end Go.Proofs.YthopphfehgdocaaGreatDoor
