import Derived.Test.YthopphfehgdocaaGreatDoorRef5
import Derived.Test.YthopphfehgdocaaGreatDoorClk1
import Derived.Test.YthopphfehgdocaaGreatDoorRef3
namespace Go.Ev
/-- a contract that says less -/
theorem psound_narrow {cx : Cx} {e e' : PFn} (hf : e'.f = e.f) (h : ∀ args v, e'.p args = some v → e.p args = some v) (k : PSound cx e) : PSound cx e' := fun i f args H nx v H' nx' hp B E w args' a b c d r => by
  refine k i f args H nx v H' nx' ?_ B E w args' a b c d r
  simp only at hp ⊢
  by_cases hq : f = e'.f
  · rw [if_pos hq] at hp
    rw [if_pos (hq.trans hf)]
    unfold pureI at hp ⊢
    cases hv : e'.p args with
    | none => rw [hv] at hp; cases hp
    | some v =>
      rw [hv] at hp
      rw [h args v hv]
      exact hp
  · rw [if_neg hq] at hp; cases hp
end Go.Ev
namespace Go.Proofs.YthopphfehgdocaaGreatDoor
open Go Go.RowKit Go.Ev Go.Proofs Go.Shelf
set_option linter.unusedSimpArgs false
set_option linter.unusedVariables false
/-! ### Whole seconds, split and joined -/
theorem rd_in {d : Int} (h1 : -4371587 ≤ d) (h2 : d ≤ 2932896) : reF d = 0 ∧ ryF d = Clk.dateYear d ∧ rmF d = Clk.dateMonth d ∧ rdF d = Clk.dateDay d := by
  have : inF d = true := by simp [inF, h1, h2]
  simp [reF, ryF, rmF, rdF, this]
def secLo : Int := -377705116800
def secHi : Int := 253402300799
theorem numOk_y {y : Int} (h1 : -10000 ≤ y) (h2 : y ≤ 10000) : numOkF y 0 1 = true := by
  unfold numOkF
  simp only [Bool.and_eq_true, decide_eq_true_eq]
  omega
theorem csplit_val (n : Int) (h1 : -377705116800 ≤ n) (h2 : n ≤ 253402300799) :
    csplitOkF (Clk.fo n) = true ∧ csplit0F (Clk.fo n) = Clk.dateYear (n / 86400) ∧ csplit1F (Clk.fo n) = Clk.dateMonth (n / 86400) ∧ csplit2F (Clk.fo n) = Clk.dateDay (n / 86400) ∧ csplit3F (Clk.fo n) = n % 86400 / 3600 ∧ csplit4F (Clk.fo n) = n % 3600 / 60 ∧ csplit5F (Clk.fo n) = Clk.fo (n % 60) ∧ csplit6F (Clk.fo n) = wdF (n / 86400) ∧ csplit7F (Clk.fo n) = n / 86400 - Clk.number (Clk.dateYear (n / 86400)) 0 1 ∧ csplit8F (Clk.fo n) = 0 := by
  have hb : n.natAbs < 2 ^ 53 := by omega
  have hd1 : -4371587 ≤ n / 86400 := by omega
  have hd2 : n / 86400 ≤ 2932896 := by omega
  obtain ⟨e1, e2, e3, e4⟩ := rd_in hd1 hd2
  have w1 : IntKind.i64.wrap (n / 86400) = n / 86400 := wrap_id _ (by omega) (by omega)
  have yr := Clk.dateYear_range _ hd1 hd2
  have t1 : Int.tmod (n % 86400) 60 = n % 60 := by rw [Int.tmod_eq_emod_of_nonneg (by omega)]; omega
  have t2 : Int.tdiv (n % 86400) 3600 = n % 86400 / 3600 := Int.tdiv_eq_ediv_of_nonneg (by omega)
  have t3 : Int.tdiv (n % 86400) 60 = n % 86400 / 60 := Int.tdiv_eq_ediv_of_nonneg (by omega)
  have t4 : Int.tmod (n % 86400 / 60) 60 = n % 3600 / 60 := by rw [Int.tmod_eq_emod_of_nonneg (by omega)]; omega
  have t5 : Int.tmod (n % 86400) 3600 = n % 3600 := by rw [Int.tmod_eq_emod_of_nonneg (by omega)]; omega
  have t6 : Int.tdiv (n % 3600) 60 = n % 3600 / 60 := Int.tdiv_eq_ediv_of_nonneg (by omega)
  have w2 : IntKind.i64.wrap (n % 86400 / 3600) = n % 86400 / 3600 := wrap_id _ (by omega) (by omega)
  have w3 : IntKind.i64.wrap (n % 86400 / 60) = n % 86400 / 60 := wrap_id _ (by omega) (by omega)
  have w4 : IntKind.i64.wrap (n % 3600 / 60) = n % 3600 / 60 := wrap_id _ (by omega) (by omega)
  have hnum := Clk.number (Clk.dateYear (n / 86400)) 0 1
  have w5 : IntKind.i64.wrap (n / 86400 - Clk.number (Clk.dateYear (n / 86400)) 0 1) = n / 86400 - Clk.number (Clk.dateYear (n / 86400)) 0 1 := wrap_id _ (by unfold Clk.number; simp only; omega) (by unfold Clk.number; simp only; omega)
  have a0 : (n % 60).natAbs < 2 ^ 53 := by omega
  have s1 : FloatKind.f64.format.sub (Clk.fo n) (Clk.fo n) = some (Clk.fo 0) := Clk.sub_fo_self n hb
  have s2 : FloatKind.f64.format.add (Clk.fo (n % 60)) (Clk.fo 0) = some (Clk.fo (n % 60)) := by
    have := Clk.add_fo' (n % 60) 0 a0 (by decide) (by omega)
    rwa [Int.add_zero] at this
  have o1 := Clk.ord_1e12 ((n.natAbs : Nat) : Int) (by omega) (by omega)
  have ny := numOk_y (y := Clk.dateYear (n / 86400)) (by omega) (by omega)
  refine ⟨?_, ?_, ?_, ?_, ?_, ?_, ?_, ?_, ?_, ?_⟩ <;>
    simp only [csplitOkF, csplit0F, csplit1F, csplit2F, csplit3F, csplit4F, csplit5F, csplit6F, csplit7F, csplit8F, numdF, Clk.fround_fo n hb, Clk.froundOk_fo n hb, Clk.ord_self n hb, Clk.abs_fo n hb, o1, Clk.f2iOk_fo n hb, Clk.f2i_fo n hb, w1, w2, w3, w4, w5, t1, t2, t3, t4, t5, t6, e1, e2, e3, e4, s1, s2, ny, Clk.near_fo, Clk.fval_some, Option.isSome_some, Bool.and_true, Bool.and_self, bne_self_eq_false, Bool.not_false, Bool.not_true, Bool.true_and, cond_false, cond_true]
/-- the seconds of a time -/
def secsOf (Y M D ho mi s : Int) : Int := Clk.number Y M D * 86400 + ho * 3600 + mi * 60 + s
theorem cjoin_val (Y M D ho mi s W J : Int) (y1 : -9999 ≤ Y) (y2 : Y ≤ 9999) (m1 : 0 ≤ M) (m2 : M ≤ 11) (d1 : 1 ≤ D) (d2 : D ≤ 31) (o1 : 0 ≤ ho) (o2 : ho ≤ 23) (i1 : 0 ≤ mi) (i2 : mi ≤ 59) (s1 : 0 ≤ s) (s2 : s ≤ 59) (n1 : -377705116800 ≤ secsOf Y M D ho mi s) (n2 : secsOf Y M D ho mi s ≤ 253402300799) :
    cjoinOkF Y M D ho mi (Clk.fo s) W J = true ∧ cjoin1F Y M D ho mi (Clk.fo s) W J = 0 ∧ cjoin0F Y M D ho mi (Clk.fo s) W J = secsOf Y M D ho mi s := by
  have hb : s.natAbs < 2 ^ 53 := by omega
  have q1 : M / 12 = 0 := by omega
  have q2 : M % 12 = M := by omega
  have nr : -4400000 ≤ Clk.number Y M 1 ∧ Clk.number Y M 1 ≤ 3000000 := by unfold Clk.number; simp only; omega
  have nd : Clk.number Y M 1 + D - 1 = Clk.number Y M D := Clk.number_day Y M D
  have w0 : IntKind.i64.wrap (Y + 0) = Y := by rw [Int.add_zero]; exact wrap_id _ (by omega) (by omega)
  have wz : IntKind.i64.wrap 0 = 0 := by decide
  have w1 : IntKind.i64.wrap (Clk.number Y M 1 + D) = Clk.number Y M 1 + D := wrap_id _ (by omega) (by omega)
  have w2 : IntKind.i64.wrap (Clk.number Y M 1 + D - 1) = Clk.number Y M D := by rw [nd]; exact wrap_id _ (by omega) (by omega)
  have w3 : IntKind.i64.wrap (Clk.number Y M D * 86400) = Clk.number Y M D * 86400 := wrap_id _ (by omega) (by omega)
  have w4 : IntKind.i64.wrap (ho * 3600) = ho * 3600 := wrap_id _ (by omega) (by omega)
  have w5 : IntKind.i64.wrap (mi * 60) = mi * 60 := wrap_id _ (by omega) (by omega)
  have w6 : IntKind.i64.wrap (Clk.number Y M D * 86400 + ho * 3600) = Clk.number Y M D * 86400 + ho * 3600 := wrap_id _ (by omega) (by omega)
  have w7 : IntKind.i64.wrap (Clk.number Y M D * 86400 + ho * 3600 + mi * 60) = Clk.number Y M D * 86400 + ho * 3600 + mi * 60 := wrap_id _ (by omega) (by omega)
  have w8 : IntKind.i64.wrap (Clk.number Y M D * 86400 + ho * 3600 + mi * 60 + s) = secsOf Y M D ho mi s := wrap_id _ (by omega) (by omega)
  have w9 : IntKind.i64.wrap (secsOf Y M D ho mi s / 86400) = secsOf Y M D ho mi s / 86400 := wrap_id _ (by omega) (by omega)
  have ny : numOkF Y M 1 = true := by
    unfold numOkF
    simp only [Bool.and_eq_true, decide_eq_true_eq]
    omega
  have o9 := Clk.ord_1e9 ((s.natAbs : Nat) : Int) (by omega) (by omega)
  have f1 : ∀ x y : Int, y ≤ x → decide (x < y) = false := fun x y h => decide_eq_false (by omega)
  have f2 : ∀ x y : Int, x ≤ y → decide (x > y) = false := fun x y h => decide_eq_false (by omega)
  refine ⟨?_, ?_, ?_⟩ <;>
    simp only [cjoinOkF, cjoin0F, cjoin1F, numdF, q1, q2, wz, w0, w1, w2, w3, w4, w5, w6, w7, w8, w9, ny, o9, Clk.fround_fo s hb, Clk.froundOk_fo s hb, Clk.ord_self s hb, Clk.abs_fo s hb, Clk.f2iOk_fo s hb, Clk.f2i_fo s hb,
      f1 Y (-1000000000) (by omega), f2 Y 1000000000 (by omega), f1 M (-1000000000) (by omega), f2 M 1000000000 (by omega), f1 D (-1000000000) (by omega), f2 D 1000000000 (by omega), f1 ho (-1000000000) (by omega), f2 ho 1000000000 (by omega), f1 mi (-1000000000) (by omega), f2 mi 1000000000 (by omega), f1 Y (-9999) y1, f2 Y 9999 y2, f1 (secsOf Y M D ho mi s / 86400) (-4371587) (by omega), f2 (secsOf Y M D ho mi s / 86400) 2932896 (by omega),
      Bool.and_true, Bool.and_self, bne_self_eq_false, Bool.not_false, Bool.not_true, Bool.true_and, cond_false, cond_true]
end Go.Proofs.YthopphfehgdocaaGreatDoor
namespace Go.Proofs.YthopphfehgdocaaGreatDoor
open Go Go.RowKit Go.Ev Go.Proofs Go.Shelf
set_option linter.unusedSimpArgs false
set_option linter.unusedVariables false
/-! ### A time that is a whole second's: clock.normal keeps it -/
theorem cwksOk_all (m : Int) : cwksOkF m = true := by
  unfold cwksOkF
  by_cases h : inF m = true
  · have h' := h
    unfold inF at h'
    simp only [Bool.and_eq_true, decide_eq_true_eq] at h'
    obtain ⟨e1, e2, e3, e4⟩ := rd_in h'.1 h'.2
    have yr := Clk.dateYear_range _ h'.1 h'.2
    have n0 := numOk_y (y := Clk.dateYear m) (by omega) (by omega)
    have w1 : IntKind.i64.wrap (Clk.dateYear m - 1) = Clk.dateYear m - 1 := wrap_id _ (by omega) (by omega)
    have w2 : IntKind.i64.wrap (Clk.dateYear m + 1) = Clk.dateYear m + 1 := wrap_id _ (by omega) (by omega)
    have n1 := numOk_y (y := Clk.dateYear m - 1) (by omega) (by omega)
    have n2 := numOk_y (y := Clk.dateYear m + 1) (by omega) (by omega)
    simp only [e1, e2, n0, w1, w2, n1, n2, bne_self_eq_false, cond_false, Bool.and_self, Bool.true_and, Bool.cond_self]
  · have h' : inF m = false := by simpa using h
    have e1 : reF m = 110 := by simp [reF, h']
    rw [e1]
    rfl
theorem cdayOk_all {y m d : Int} (h1 : 0 ≤ m) (h2 : m ≤ 11) (h3 : d ≤ 1000000) : cdayOkF y m d = true := by
  unfold cdayOkF
  cases c1 : decide (y < -9999) with
  | true => rfl
  | false =>
    cases c2 : decide (y > 9999) with
    | true => rfl
    | false =>
      cases c3 : decide (d < 1) with
      | true => rfl
      | false =>
        cases c4 : decide (d > lenF y m) with
        | true => rfl
        | false =>
          simp only [decide_eq_false_iff_not] at c1 c2 c3
          simp only [cond_false, Bool.and_true]
          unfold numOkF
          simp only [Bool.and_eq_true, decide_eq_true_eq]
          omega
def secOf (S : Nat) : Int := f2i .f64 S
def nsF (Y M D ho mi : Int) (S : Nat) : Int := secsOf Y M D ho mi (f2i .f64 S)
def isTF (Y M D ho mi : Int) (S : Nat) : Bool :=
  (S == Clk.fo (f2i .f64 S)) && (decide (-377705116800 ≤ nsF Y M D ho mi S) && (decide (nsF Y M D ho mi S ≤ 253402300799) && (decide (Y = Clk.dateYear (nsF Y M D ho mi S / 86400)) && (decide (M = Clk.dateMonth (nsF Y M D ho mi S / 86400)) && (decide (D = Clk.dateDay (nsF Y M D ho mi S / 86400)) && (decide (ho = nsF Y M D ho mi S % 86400 / 3600) && (decide (mi = nsF Y M D ho mi S % 3600 / 60) && decide (f2i .f64 S = nsF Y M D ho mi S % 60))))))))
theorem isT_spec {Y M D ho mi : Int} {S : Nat} (h : isTF Y M D ho mi S = true) : ∃ n, nsF Y M D ho mi S = n ∧ -377705116800 ≤ n ∧ n ≤ 253402300799 ∧ Y = Clk.dateYear (n / 86400) ∧ M = Clk.dateMonth (n / 86400) ∧ D = Clk.dateDay (n / 86400) ∧ ho = n % 86400 / 3600 ∧ mi = n % 3600 / 60 ∧ S = Clk.fo (n % 60) ∧ f2i .f64 S = n % 60 := by
  unfold isTF at h
  simp only [Bool.and_eq_true, decide_eq_true_eq, beq_iff_eq] at h
  obtain ⟨a, b, c, d, e, f, g, i, j⟩ := h
  exact ⟨_, rfl, b, c, d, e, f, g, i, by rw [← j]; exact a, j⟩
theorem secs_back (n : Int) : secsOf (Clk.dateYear (n / 86400)) (Clk.dateMonth (n / 86400)) (Clk.dateDay (n / 86400)) (n % 86400 / 3600) (n % 3600 / 60) (n % 60) = n := by
  unfold secsOf
  rw [Clk.number_date]
  omega
theorem isT_of (n : Int) (h1 : -377705116800 ≤ n) (h2 : n ≤ 253402300799) : isTF (Clk.dateYear (n / 86400)) (Clk.dateMonth (n / 86400)) (Clk.dateDay (n / 86400)) (n % 86400 / 3600) (n % 3600 / 60) (Clk.fo (n % 60)) = true := by
  have e : f2i .f64 (Clk.fo (n % 60)) = n % 60 := Clk.f2i_fo _ (by omega)
  have e2 : nsF (Clk.dateYear (n / 86400)) (Clk.dateMonth (n / 86400)) (Clk.dateDay (n / 86400)) (n % 86400 / 3600) (n % 3600 / 60) (Clk.fo (n % 60)) = n := by
    unfold nsF
    rw [e, secs_back]
  unfold isTF
  rw [e2, e]
  simp [h1, h2]
theorem norm_val {Y M D ho mi : Int} {S : Nat} (W J : Int) (h : isTF Y M D ho mi S = true) :
    normOkF Y M D ho mi S W J = true ∧ norm0F Y M D ho mi S W J = Y ∧ norm1F Y M D ho mi S W J = M ∧ norm2F Y M D ho mi S W J = D ∧ norm3F Y M D ho mi S W J = ho ∧ norm4F Y M D ho mi S W J = mi ∧ norm5F Y M D ho mi S W J = S ∧ norm6F Y M D ho mi S W J = wdF (nsF Y M D ho mi S / 86400) ∧ norm7F Y M D ho mi S W J = nsF Y M D ho mi S / 86400 - Clk.number Y 0 1 ∧ norm8F Y M D ho mi S W J = nsF Y M D ho mi S ∧ norm13F Y M D ho mi S W J = true := by
  obtain ⟨n, hn, n1, n2, hY, hM, hD, ho', hmi, hS, hs⟩ := isT_spec h
  rw [hn]
  have r := Clk.date_ranges (n / 86400)
  have yr := Clk.dateYear_range (n / 86400) (by omega) (by omega)
  have sb : secsOf Y M D ho mi (n % 60) = n := by rw [hY, hM, hD, ho', hmi]; exact secs_back n
  obtain ⟨j1, j2, j3⟩ := cjoin_val Y M D ho mi (n % 60) W J (by omega) (by omega) (by omega) (by omega) (by omega) (by omega) (by omega) (by omega) (by omega) (by omega) (by omega) (by omega) (by omega) (by omega)
  rw [sb] at j3
  rw [← hS] at j1 j2 j3
  obtain ⟨s1, s2, s3, s4, s5, s6, s7, s8, s9, s10⟩ := csplit_val n n1 n2
  rw [← hY] at s2 s9
  rw [← hM] at s3
  rw [← hD] at s4
  rw [← ho'] at s5
  rw [← hmi] at s6
  rw [← hS] at s7
  have hb : (n % 60).natAbs < 2 ^ 53 := by omega
  have f1 : froundOk S = true := by rw [hS]; exact Clk.froundOk_fo _ hb
  have f2 : fround .down S = S := by rw [hS]; exact Clk.fround_fo _ hb
  have f3 : (FloatKind.f64.format.order S S != some Ordering.eq) = false := by rw [hS]; exact Clk.ord_self _ hb
  have cd : cdayOkF Y M D = true := cdayOk_all (by omega) (by omega) (by omega)
  refine ⟨?_, ?_, ?_, ?_, ?_, ?_, ?_, ?_, ?_, ?_, ?_⟩ <;>
    simp only [normOkF, norm0F, norm1F, norm2F, norm3F, norm4F, norm5F, norm6F, norm7F, norm8F, norm13F, j1, j2, j3, Clk.near_fo, s1, s2, s3, s4, s5, s6, s7, s8, s9, s10, f1, f2, f3, cd, cwksOk_all, Bool.and_true, Bool.and_self, bne_self_eq_false, Bool.not_false, Bool.true_and, cond_false, cond_true]
def norm2V (args : Array Value) : Option Value := match args.toList with
  | [.agg a] => match a.toList with
    | [.int .i64 Y, .int .i64 M, .int .i64 D, .int .i64 ho, .int .i64 mi, .float .f64 S, .int .i64 W, .int .i64 J] => some (.tuple #[.agg #[.int .i64 Y, .int .i64 M, .int .i64 D, .int .i64 ho, .int .i64 mi, .float .f64 S, .int .i64 (wdF (nsF Y M D ho mi S / 86400)), .int .i64 (nsF Y M D ho mi S / 86400 - Clk.number Y 0 1), .int .i64 (nsF Y M D ho mi S), .int .i64 (norm9F Y M D ho mi S W J), .int .i64 (norm10F Y M D ho mi S W J), .int .i64 (norm11F Y M D ho mi S W J), .int .i64 (norm12F Y M D ho mi S W J)], .bool true])
    | _ => none
  | _ => none
def norm2K (args : Array Value) : Bool := match args.toList with
  | [.agg a] => match a.toList with
    | [.int .i64 Y, .int .i64 M, .int .i64 D, .int .i64 ho, .int .i64 mi, .float .f64 S, .int .i64 W, .int .i64 J] => isTF Y M D ho mi S == true
    | _ => false
  | _ => false
def norm2A : AFn := { f := 33, val := norm2V, ok := norm2K }
theorem AFn.p_of {e : AFn} {args : Array Value} {v : Value} (h1 : e.val args = some v) (h2 : e.ok args = true) : e.pfn.p args = some v := by
  show (match e.val args with
    | none => none
    | some v => match e.ok args with
      | true => some v
      | false => none) = some v
  rw [h1, h2]
theorem norm2_sound : PSound cx0 norm2A.pfn := psound_narrow (e := normA.pfn) rfl (fun args v h => by
  obtain ⟨hv, hk⟩ := afn_some h
  replace hv : norm2V args = some v := hv
  replace hk : norm2K args = true := hk
  unfold norm2V at hv
  split at hv
  · rename_i a hx
    have ha := args_list hx
    subst ha
    split at hv
    · rename_i Y M D ho mi S W J hx2
      have ha2 := args_list hx2
      subst ha2
      cases hv
      have hok : isTF Y M D ho mi S = true := by simpa [norm2K] using hk
      obtain ⟨k, v0, v1, v2, v3, v4, v5, v6, v7, v8, v13⟩ := norm_val W J hok
      refine AFn.p_of ?_ ?_
      · show some (Value.tuple #[Value.agg #[.int .i64 (norm0F Y M D ho mi S W J), .int .i64 (norm1F Y M D ho mi S W J), .int .i64 (norm2F Y M D ho mi S W J), .int .i64 (norm3F Y M D ho mi S W J), .int .i64 (norm4F Y M D ho mi S W J), .float .f64 (norm5F Y M D ho mi S W J), .int .i64 (norm6F Y M D ho mi S W J), .int .i64 (norm7F Y M D ho mi S W J), .int .i64 (norm8F Y M D ho mi S W J), .int .i64 (norm9F Y M D ho mi S W J), .int .i64 (norm10F Y M D ho mi S W J), .int .i64 (norm11F Y M D ho mi S W J), .int .i64 (norm12F Y M D ho mi S W J)], .bool (norm13F Y M D ho mi S W J)]) = _
        rw [v0, v1, v2, v3, v4, v5, v6, v7, v8, v13]
      · show (normOkF Y M D ho mi S W J == true) = true
        rw [k]; rfl
    · cases hv
  · cases hv) norm_sound
/-- ref11.Split at a whole second -/
def rsp2V (args : Array Value) : Option Value := match args.toList with
  | [.float .f64 x] => some (.tuple #[.agg #[.int .i64 (Clk.dateYear (f2i .f64 x / 86400)), .int .i64 (Clk.dateMonth (f2i .f64 x / 86400)), .int .i64 (Clk.dateDay (f2i .f64 x / 86400)), .int .i64 (f2i .f64 x % 86400 / 3600), .int .i64 (f2i .f64 x % 3600 / 60), .float .f64 (Clk.fo (f2i .f64 x % 60)), .int .i64 (wdF (f2i .f64 x / 86400)), .int .i64 (f2i .f64 x / 86400 - Clk.number (Clk.dateYear (f2i .f64 x / 86400)) 0 1)], .int .i64 0])
  | _ => none
def fsecF (x : Nat) : Bool := (x == Clk.fo (f2i .f64 x)) && (decide (-377705116800 ≤ f2i .f64 x) && decide (f2i .f64 x ≤ 253402300799))
def rsp2K (args : Array Value) : Bool := match args.toList with
  | [.float .f64 x] => fsecF x == true
  | _ => false
def csp2A : AFn := { f := 16, val := rsp2V, ok := rsp2K }
theorem csp2_sound : PSound cx0 csp2A.pfn := psound_narrow (e := csplitA.pfn) rfl (fun args v h => by
  obtain ⟨hv, hk⟩ := afn_some h
  replace hv : rsp2V args = some v := hv
  replace hk : rsp2K args = true := hk
  unfold rsp2V at hv
  split at hv
  · rename_i x hx
    have ha := args_list hx
    subst ha
    cases hv
    have hok : fsecF x = true := by simpa [rsp2K] using hk
    unfold fsecF at hok
    simp only [Bool.and_eq_true, decide_eq_true_eq, beq_iff_eq] at hok
    obtain ⟨hx, n1, n2⟩ := hok
    generalize f2i .f64 x = n at hx n1 n2 ⊢
    obtain ⟨k, v0, v1, v2, v3, v4, v5, v6, v7, v8⟩ := csplit_val n n1 n2
    rw [← hx] at k v0 v1 v2 v3 v4 v5 v6 v7 v8
    refine AFn.p_of ?_ ?_
    · show some (Value.tuple #[Value.agg #[.int .i64 (csplit0F x), .int .i64 (csplit1F x), .int .i64 (csplit2F x), .int .i64 (csplit3F x), .int .i64 (csplit4F x), .float .f64 (csplit5F x), .int .i64 (csplit6F x), .int .i64 (csplit7F x)], .int .i64 (csplit8F x)]) = _
      rw [v0, v1, v2, v3, v4, v5, v6, v7, v8]
    · show (csplitOkF x == true) = true
      rw [k]; rfl
  · cases hv) csplit_sound
end Go.Proofs.YthopphfehgdocaaGreatDoor
