import Derived.Test.YthopphfehgdocaaGreatDoorGen1
import Derived.Test.YthopphfehgdocaaGreatDoorClk2
import Derived.Test.YthopphfehgdocaaGreatDoorOrd1
import Derived.Test.YthopphfehgdocaaGreatDoorRef6
namespace Go.Proofs.YthopphfehgdocaaGreatDoor
open Go Go.Op
set_option linter.unusedSimpArgs false
set_option linter.unusedVariables false
/-! ### The order of texts of digits -/
def dgF (k : Int) : UInt8 := UInt8.ofNat (48 + k.toNat)
theorem dg_nat {a : Int} (h0 : 0 ≤ a) (h1 : a ≤ 9) : (dgF a).toNat = 48 + a.toNat := by
  unfold dgF
  rw [UInt8.toNat_ofNat']
  omega
theorem dg_lt {a b : Int} (a0 : 0 ≤ a) (a1 : a ≤ 9) (b0 : 0 ≤ b) (b1 : b ≤ 9) : (decide (dgF a < dgF b)) = decide (a < b) := by
  rw [decide_eq_decide, UInt8.lt_iff_toNat_lt, dg_nat a0 a1, dg_nat b0 b1]
  omega
theorem dg_eq {a b : Int} (a0 : 0 ≤ a) (a1 : a ≤ 9) (b0 : 0 ≤ b) (b1 : b ≤ 9) : (dgF a == dgF b) = decide (a = b) := by
  rw [Bool.eq_iff_iff, beq_iff_eq, decide_eq_true_eq]
  constructor
  · intro h
    have := congrArg UInt8.toNat h
    rw [dg_nat a0 a1, dg_nat b0 b1] at this
    omega
  · intro h; rw [h]
theorem less_same (c : UInt8) (x y : List UInt8) : bytesLess (c :: x) (c :: y) = bytesLess x y := by
  have h : decide (c < c) = false := decide_eq_false (UInt8.lt_irrefl c)
  simp [bytesLess, h]
theorem less2 {a b : Int} (a0 : 0 ≤ a) (a1 : a ≤ 99) (b0 : 0 ≤ b) (b1 : b ≤ 99) (x y : List UInt8) :
    bytesLess (dgF (a / 10) :: dgF (a % 10) :: x) (dgF (b / 10) :: dgF (b % 10) :: y) = (decide (a < b) || (decide (a = b) && bytesLess x y)) := by
  have e1 := dg_lt (a := a / 10) (b := b / 10) (by omega) (by omega) (by omega) (by omega)
  have e2 := dg_lt (a := a % 10) (b := b % 10) (by omega) (by omega) (by omega) (by omega)
  have e3 := dg_eq (a := a / 10) (b := b / 10) (by omega) (by omega) (by omega) (by omega)
  have e4 := dg_eq (a := a % 10) (b := b % 10) (by omega) (by omega) (by omega) (by omega)
  simp only [bytesLess, e1, e2, e3, e4]
  cases bytesLess x y
  · rw [Bool.eq_iff_iff]
    simp only [Bool.or_eq_true, Bool.and_eq_true, decide_eq_true_eq, Bool.false_eq_true, and_false, or_false]
    omega
  · rw [Bool.eq_iff_iff]
    simp only [Bool.or_eq_true, Bool.and_eq_true, decide_eq_true_eq, and_true]
    omega
theorem same2 {a b : Int} (a0 : 0 ≤ a) (a1 : a ≤ 99) (b0 : 0 ≤ b) (b1 : b ≤ 99) {x y : List UInt8} (h : dgF (a / 10) :: dgF (a % 10) :: x = dgF (b / 10) :: dgF (b % 10) :: y) : a = b ∧ x = y := by
  injection h with h1 h2
  injection h2 with h2 h3
  have e3 := dg_eq (a := a / 10) (b := b / 10) (by omega) (by omega) (by omega) (by omega)
  have e4 := dg_eq (a := a % 10) (b := b % 10) (by omega) (by omega) (by omega) (by omega)
  rw [h1] at e3
  rw [h2] at e4
  simp only [BEq.rfl] at e3 e4
  have q3 := of_decide_eq_true e3.symm
  have q4 := of_decide_eq_true e4.symm
  exact ⟨by omega, h3⟩
def isoL (Y M D ho mi s : Int) : List UInt8 := [dgF (Y / 1000), dgF (Y / 100 % 10), dgF (Y / 10 % 10), dgF (Y % 10), 45, dgF ((M + 1) / 10), dgF ((M + 1) % 10), 45, dgF (D / 10), dgF (D % 10), 84, dgF (ho / 10), dgF (ho % 10), 58, dgF (mi / 10), dgF (mi % 10), 58, dgF (s / 10), dgF (s % 10), 90]
def inT (Y M D ho mi s : Int) : Prop := 1000 ≤ Y ∧ Y ≤ 9999 ∧ 0 ≤ M ∧ M ≤ 11 ∧ 1 ≤ D ∧ D ≤ 31 ∧ 0 ≤ ho ∧ ho ≤ 23 ∧ 0 ≤ mi ∧ mi ≤ 59 ∧ 0 ≤ s ∧ s ≤ 59
theorem iso_year (Y : Int) : dgF (Y / 1000) = dgF (Y / 100 / 10) ∧ dgF (Y / 10 % 10) = dgF (Y % 100 / 10) ∧ dgF (Y % 10) = dgF (Y % 100 % 10) := by
  refine ⟨?_, ?_, ?_⟩ <;> congr 1 <;> omega
theorem iso_less {Y M D ho mi s Y' M' D' ho' mi' s' : Int} (h : inT Y M D ho mi s) (h' : inT Y' M' D' ho' mi' s') :
    bytesLess (isoL Y M D ho mi s) (isoL Y' M' D' ho' mi' s') = (decide (Y / 100 < Y' / 100) || (decide (Y / 100 = Y' / 100) && (decide (Y % 100 < Y' % 100) || (decide (Y % 100 = Y' % 100) && (decide (M + 1 < M' + 1) || (decide (M + 1 = M' + 1) && (decide (D < D') || (decide (D = D') && (decide (ho < ho') || (decide (ho = ho') && (decide (mi < mi') || (decide (mi = mi') && (decide (s < s') || (decide (s = s') && false)))))))))))))) := by
  obtain ⟨y0, y1, m0, m1, d0, d1, o0, o1, i0, i1, s0, s1⟩ := h
  obtain ⟨y0', y1', m0', m1', d0', d1', o0', o1', i0', i1', s0', s1'⟩ := h'
  unfold isoL
  obtain ⟨e1, e2, e3⟩ := iso_year Y
  obtain ⟨e1', e2', e3'⟩ := iso_year Y'
  rw [e1, e2, e3, e1', e2', e3']
  rw [less2 (by omega) (by omega) (by omega) (by omega), less2 (by omega) (by omega) (by omega) (by omega), less_same, less2 (by omega) (by omega) (by omega) (by omega), less_same, less2 (by omega) (by omega) (by omega) (by omega), less_same, less2 (by omega) (by omega) (by omega) (by omega), less_same, less2 (by omega) (by omega) (by omega) (by omega), less_same, less2 (by omega) (by omega) (by omega) (by omega), less_same]
  rfl
theorem iso_inj {Y M D ho mi s Y' M' D' ho' mi' s' : Int} (h : inT Y M D ho mi s) (h' : inT Y' M' D' ho' mi' s') (e : isoL Y M D ho mi s = isoL Y' M' D' ho' mi' s') : Y = Y' ∧ M = M' ∧ D = D' ∧ ho = ho' ∧ mi = mi' ∧ s = s' := by
  obtain ⟨y0, y1, m0, m1, d0, d1, o0, o1, i0, i1, s0, s1⟩ := h
  obtain ⟨y0', y1', m0', m1', d0', d1', o0', o1', i0', i1', s0', s1'⟩ := h'
  unfold isoL at e
  obtain ⟨e1, e2, e3⟩ := iso_year Y
  obtain ⟨e1', e2', e3'⟩ := iso_year Y'
  rw [e1, e2, e3, e1', e2', e3'] at e
  obtain ⟨q1, e⟩ := same2 (by omega) (by omega) (by omega) (by omega) e
  obtain ⟨q2, e⟩ := same2 (by omega) (by omega) (by omega) (by omega) e
  injection e with _ e
  obtain ⟨q3, e⟩ := same2 (by omega) (by omega) (by omega) (by omega) e
  injection e with _ e
  obtain ⟨q4, e⟩ := same2 (by omega) (by omega) (by omega) (by omega) e
  injection e with _ e
  obtain ⟨q5, e⟩ := same2 (by omega) (by omega) (by omega) (by omega) e
  injection e with _ e
  obtain ⟨q6, e⟩ := same2 (by omega) (by omega) (by omega) (by omega) e
  injection e with _ e
  obtain ⟨q7, e⟩ := same2 (by omega) (by omega) (by omega) (by omega) e
  exact ⟨by omega, by omega, q4, q5, q6, q7⟩
/-- the text of a second -/
def isoOf (n : Int) : List UInt8 := isoL (Clk.dateYear (n / 86400)) (Clk.dateMonth (n / 86400)) (Clk.dateDay (n / 86400)) (n % 86400 / 3600) (n % 3600 / 60) (n % 60)
theorem in_of {n : Int} (h1 : 1000 ≤ Clk.dateYear (n / 86400)) (h2 : Clk.dateYear (n / 86400) ≤ 9999) : inT (Clk.dateYear (n / 86400)) (Clk.dateMonth (n / 86400)) (Clk.dateDay (n / 86400)) (n % 86400 / 3600) (n % 3600 / 60) (n % 60) := by
  have r := Clk.date_ranges (n / 86400)
  exact ⟨h1, h2, by omega, by omega, by omega, by omega, by omega, by omega, by omega, by omega, by omega, by omega⟩
theorem iso_lt {n m : Int} (h : n < m) (n1 : 1000 ≤ Clk.dateYear (n / 86400)) (n2 : Clk.dateYear (n / 86400) ≤ 9999) (m1 : 1000 ≤ Clk.dateYear (m / 86400)) (m2 : Clk.dateYear (m / 86400) ≤ 9999) :
    bytesLess (isoOf n) (isoOf m) = true ∧ bytesLess (isoOf m) (isoOf n) = false ∧ isoOf n ≠ isoOf m := by
  have in1 := in_of n1 n2
  have in2 := in_of m1 m2
  have rn := Clk.date_ranges (n / 86400)
  have rm := Clk.date_ranges (m / 86400)
  have hk : (Clk.dateYear (n / 86400) * 12 + Clk.dateMonth (n / 86400) < Clk.dateYear (m / 86400) * 12 + Clk.dateMonth (m / 86400) ∨ (Clk.dateYear (n / 86400) * 12 + Clk.dateMonth (n / 86400) = Clk.dateYear (m / 86400) * 12 + Clk.dateMonth (m / 86400) ∧ Clk.dateDay (n / 86400) < Clk.dateDay (m / 86400))) ∨ (n / 86400 = m / 86400 ∧ n % 86400 < m % 86400) := by
    rcases Int.lt_or_le (n / 86400) (m / 86400) with q | q
    · exact .inl (Clk.date_mono _ _ q)
    · right; omega
  have hk2 : n / 86400 = m / 86400 → Clk.dateYear (n / 86400) = Clk.dateYear (m / 86400) ∧ Clk.dateMonth (n / 86400) = Clk.dateMonth (m / 86400) ∧ Clk.dateDay (n / 86400) = Clk.dateDay (m / 86400) := fun q => by rw [q]; exact ⟨rfl, rfl, rfl⟩
  unfold isoOf
  rw [iso_less in1 in2, iso_less in2 in1]
  refine ⟨?_, ?_, ?_⟩
  · simp only [Bool.or_eq_true, Bool.and_eq_true, decide_eq_true_eq, Bool.false_eq_true, and_false, or_false]
    rcases hk with hk | ⟨hk, hr⟩
    · generalize Clk.dateYear (n / 86400) = Y at *
      generalize Clk.dateYear (m / 86400) = Y' at *
      generalize Clk.dateMonth (n / 86400) = M at *
      generalize Clk.dateMonth (m / 86400) = M' at *
      generalize Clk.dateDay (n / 86400) = D at *
      generalize Clk.dateDay (m / 86400) = D' at *
      clear hk2 in1 in2
      have : Y < Y' ∨ (Y = Y' ∧ (M < M' ∨ M = M' ∧ D < D')) := by omega
      rcases this with q | ⟨rfl, q | ⟨rfl, q⟩⟩
      · rcases Int.lt_or_le (Y / 100) (Y' / 100) with z | z
        · exact .inl z
        · exact .inr ⟨by omega, .inl (by omega)⟩
      · exact .inr ⟨rfl, .inr ⟨rfl, .inl (by omega)⟩⟩
      · exact .inr ⟨rfl, .inr ⟨rfl, .inr ⟨rfl, .inl q⟩⟩⟩
    · obtain ⟨q1, q2, q3⟩ := hk2 hk
      rw [q1, q2, q3]
      refine .inr ⟨rfl, .inr ⟨rfl, .inr ⟨rfl, .inr ⟨rfl, ?_⟩⟩⟩⟩
      omega
  · rw [Bool.eq_false_iff]
    intro hc
    simp only [Bool.or_eq_true, Bool.and_eq_true, decide_eq_true_eq, Bool.false_eq_true, and_false, or_false] at hc
    rcases hk with hk | ⟨hk, hr⟩
    · generalize Clk.dateYear (n / 86400) = Y at *
      generalize Clk.dateYear (m / 86400) = Y' at *
      generalize Clk.dateMonth (n / 86400) = M at *
      generalize Clk.dateMonth (m / 86400) = M' at *
      generalize Clk.dateDay (n / 86400) = D at *
      generalize Clk.dateDay (m / 86400) = D' at *
      clear hk2 in1 in2
      have : Y < Y' ∨ (Y = Y' ∧ (M < M' ∨ M = M' ∧ D < D')) := by omega
      rcases hc with c | ⟨c0, c | ⟨c1, c | ⟨c2, c | ⟨c3, _⟩⟩⟩⟩ <;> omega
    · obtain ⟨q1, q2, q3⟩ := hk2 hk
      rw [q1, q2, q3] at hc
      rcases hc with c | ⟨c0, c | ⟨c1, c | ⟨c2, c | ⟨c3, c⟩⟩⟩⟩ <;> omega
  · intro e
    obtain ⟨q1, q2, q3, q4, q5, q6⟩ := iso_inj in1 in2 e
    rcases hk with hk | ⟨hk, hr⟩ <;> omega
end Go.Proofs.YthopphfehgdocaaGreatDoor
namespace Go.Proofs.YthopphfehgdocaaGreatDoor
open Go Go.RowKit Go.Ev Go.Proofs Go.Shelf
set_option linter.unusedSimpArgs false
set_option linter.unusedVariables false
/-! ### Digits -/
theorem dec1 {u : Nat} (h : u < 10) : Lib.decDigits u = [UInt8.ofNat (48 + u)] := by rw [Lib.decDigits, dif_pos h]
theorem dec2 {u : Nat} (h : ¬ u < 10) : Lib.decDigits u = Lib.decDigits (u / 10) ++ [UInt8.ofNat (48 + u % 10)] := by rw [Lib.decDigits, dif_neg h]
theorem itoa_one {n : Int} (h0 : 0 ≤ n) (h1 : n < 10) : itoaF n = ⟨#[dgF n]⟩ := by
  unfold itoaF Lib.itoa
  rw [if_neg (by omega), dec1 (by omega)]
  rfl
theorem itoa_two {n : Int} (h0 : 10 ≤ n) (h1 : n < 100) : itoaF n = ⟨#[dgF (n / 10), dgF (n % 10)]⟩ := by
  unfold itoaF Lib.itoa
  rw [if_neg (by omega), dec2 (by omega), dec1 (by omega)]
  have e1 : n.toNat / 10 = (n / 10).toNat := by omega
  have e2 : n.toNat % 10 = (n % 10).toNat := by omega
  rw [e1, e2]
  rfl
theorem itoa_four {n : Int} (h0 : 1000 ≤ n) (h1 : n < 10000) : itoaF n = ⟨#[dgF (n / 1000), dgF (n / 100 % 10), dgF (n / 10 % 10), dgF (n % 10)]⟩ := by
  unfold itoaF Lib.itoa
  rw [if_neg (by omega), dec2 (by omega), dec2 (by omega), dec2 (by omega), dec1 (by omega)]
  have e1 : n.toNat / 10 / 10 / 10 = (n / 1000).toNat := by omega
  have e2 : n.toNat / 10 / 10 % 10 = (n / 100 % 10).toNat := by omega
  have e3 : n.toNat / 10 % 10 = (n / 10 % 10).toNat := by omega
  have e4 : n.toNat % 10 = (n % 10).toNat := by omega
  rw [e1, e2, e3, e4]
  rfl
def it4F (n : Int) : Bool := decide (1000 ≤ n) && decide (n ≤ 9999)
def tw2F (n : Int) : Bool := decide (0 ≤ n) && decide (n ≤ 99)
def itoa4V (args : Array Value) : Option Value := match args.toList with
  | [.int .i64 n] => some (.string ⟨#[dgF (n / 1000), dgF (n / 100 % 10), dgF (n / 10 % 10), dgF (n % 10)]⟩)
  | _ => none
def itoa4K (args : Array Value) : Bool := match args.toList with
  | [.int .i64 n] => it4F n == true
  | _ => false
def itoa4A : AFn := { f := 94, val := itoa4V, ok := itoa4K }
theorem itoa4_sound : PSound cx0 itoa4A.pfn := psound_narrow (e := itoaA.pfn) rfl (fun args v h => by
  obtain ⟨hv, hk⟩ := afn_some h
  replace hv : itoa4V args = some v := hv
  replace hk : itoa4K args = true := hk
  unfold itoa4V at hv
  split at hv
  · rename_i n hx
    have ha := args_list hx
    subst ha
    cases hv
    have hok : it4F n = true := by simpa [itoa4K] using hk
    unfold it4F at hok
    simp only [Bool.and_eq_true, decide_eq_true_eq] at hok
    refine AFn.p_of ?_ ?_
    · show some (Value.string (itoaF n)) = _
      rw [itoa_four hok.1 (by omega)]
    · show (i64F n == true) = true
      unfold i64F
      simp only [beq_iff_eq, Bool.and_eq_true, decide_eq_true_eq]
      omega
  · cases hv) itoa_sound
def two2V (args : Array Value) : Option Value := match args.toList with
  | [.int .i64 n] => some (.string ⟨#[dgF (n / 10), dgF (n % 10)]⟩)
  | _ => none
def two2K (args : Array Value) : Bool := match args.toList with
  | [.int .i64 n] => tw2F n == true
  | _ => false
def two2A : AFn := { f := 96, val := two2V, ok := two2K }
theorem two_val {n : Int} (h0 : 0 ≤ n) (h1 : n ≤ 99) : ctwo0F n = ⟨#[dgF (n / 10), dgF (n % 10)]⟩ ∧ ctwoOkF n = true := by
  have d0 : decide (n < 0) = false := decide_eq_false (by omega)
  have i0 : i64F n = true := by
    unfold i64F
    simp only [Bool.and_eq_true, decide_eq_true_eq]
    omega
  by_cases h : n < 10
  · have e := itoa_one h0 h
    have hd : n / 10 = 0 := by omega
    have hm : n % 10 = n := by omega
    constructor
    · simp only [ctwo0F, d0, cond_false, e, hd, hm]
      kernel_rfl
    · simp only [ctwoOkF, d0, i0, cond_false, e]
      kernel_rfl
  · have e := itoa_two (n := n) (by omega) (by omega)
    constructor
    · simp only [ctwo0F, d0, cond_false, e]
      kernel_rfl
    · simp only [ctwoOkF, d0, i0, cond_false, e]
      kernel_rfl
theorem two2_sound : PSound cx0 two2A.pfn := psound_narrow (e := ctwoA.pfn) rfl (fun args v h => by
  obtain ⟨hv, hk⟩ := afn_some h
  replace hv : two2V args = some v := hv
  replace hk : two2K args = true := hk
  unfold two2V at hv
  split at hv
  · rename_i n hx
    have ha := args_list hx
    subst ha
    cases hv
    have hok : tw2F n = true := by simpa [two2K] using hk
    unfold tw2F at hok
    simp only [Bool.and_eq_true, decide_eq_true_eq] at hok
    obtain ⟨e1, e2⟩ := two_val hok.1 hok.2
    refine AFn.p_of ?_ ?_
    · show some (Value.string (ctwo0F n)) = _
      rw [e1]
    · show (ctwoOkF n == true) = true
      rw [e2]; rfl
  · cases hv) ctwo_sound
theorem startWB {w : World} {a : Addr} (k : Known w a) (la : List AFn) (lp : List PFn) : Go.Ev.Start (withB la lp) H0 (E0 a) w :=
  have s := start k (tabI (la.map AFn.pfn ++ lp))
  ⟨s.dat, s.low, s.globs⟩
/-- the start's run in a context with strings.Builder's functions -/
theorem psound_startB {la : List AFn} {lp : List PFn} (ha : ∀ e ∈ la, PSound cx0 e.pfn) (hp : ∀ e ∈ lp, PSound cx0 e) {e : PFn}
    (hg : ∀ args v, e.p args = some v → args.toList.all (closed 60) = true ∧ shut v = true ∧ ∃ n H' nx', evFunc (withB la lp) n e.f args H0 12 = some (v, H', nx')) : PSound cx0 e := fun i =>
  pureI_sound fun args args' v B w E hW hB har hp' => by
    obtain ⟨hcl, hv, n, H', nx', h⟩ := hg args v hp'
    obtain ⟨h11, a, hab, hk⟩ := hW
    have he : args' = args := by
      refine Array.ext har.1.symm fun k h1 h2 => ?_
      have p : args[k]? = some args[k] := Array.getElem?_eq_getElem h2
      have q : args'[k]? = some args'[k] := Array.getElem?_eq_getElem h1
      exact (har.2 k _ _ p q).shut_eq 60 (closed_all hcl k _ p)
    subst he
    refine (ev_start (cx := withB la lp) (CxOk.withB la lp) (withB_intr ha hp) w (startWB hk la lp) ⟨by omega, a, by omega, hk⟩ (AR.closed _ hcl) h hv).mono ?_
    rintro e w' ⟨rfl, hb⟩
    exact ⟨rfl, hv, hb⟩
def laO : List AFn := [norm2A, itoa4A, two2A]
theorem laO_sound : ∀ e ∈ laO, PSound cx0 e.pfn := asound_cons norm2_sound (asound_cons itoa4_sound (asound_cons two2_sound asound_nil))
end Go.Proofs.YthopphfehgdocaaGreatDoor
