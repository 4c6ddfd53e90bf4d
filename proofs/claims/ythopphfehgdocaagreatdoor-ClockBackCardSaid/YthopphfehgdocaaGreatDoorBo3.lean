import Derived.Test.YthopphfehgdocaaGreatDoorBo1
import Derived.Test.YthopphfehgdocaaGreatDoorBk5
import Derived.Test.YthopphfehgdocaaGreatDoorBk9
import Derived.Test.YthopphfehgdocaaGreatDoorBk8
namespace Go.Proofs.YthopphfehgdocaaGreatDoor
open Go Go.RowKit Go.Ev Go.Proofs Go.Shelf
set_option linter.unusedSimpArgs false
set_option linter.unusedVariables false
def fbN : Nat → ByteArray
  | 0 => fb1
  | 1 => fb2
  | 2 => fb3
  | 3 => fb4
  | 4 => fb5
  | _ => fb6
theorem parse_all {n : Int} (hn : yearN n) : ∀ k : Nat, k < 6 → ∃ H' nx', evFunc (withB laP lpP) 120 13 #[.string (txF (k + 1) n), .string (fbN k)] H0 12 = some (splV (Clk.fo n), H', nx')
  | 0, _ => parse_ev1 hn
  | 1, _ => parse_ev2 hn
  | 2, _ => parse_ev3 hn
  | 3, _ => parse_ev4 hn
  | 4, _ => parse_ev5 hn
  | 5, _ => parse_ev6 hn
  | k + 6, h => absurd h (by omega)
theorem fmtK_N {f : ByteArray} {k : Nat} (h : fmtK f = k + 1) : k < 6 ∧ f = fbN k := by
  rcases fmtK_spec h with ⟨rfl, rfl⟩ | ⟨rfl, rfl⟩ | ⟨rfl, rfl⟩ | ⟨rfl, rfl⟩ | ⟨rfl, rfl⟩ | ⟨rfl, rfl⟩ <;> exact ⟨by decide, rfl⟩
open Classical in
theorem pr_spec {k : Nat} {s : ByteArray} (h : ∃ n, yearN n ∧ s = txF k n) : ∃ m, yearN m ∧ s = txF k m ∧ prF k s = Clk.fo m := by
  refine ⟨h.choose, h.choose_spec.1, h.choose_spec.2, ?_⟩
  unfold prF
  rw [dif_pos h]
open Classical in
theorem pkF_iff (k : Nat) (s : ByteArray) : pkF k s = true ↔ ∃ n, yearN n ∧ s = txF k n := by
  unfold pkF
  exact decide_eq_true_iff
theorem pr_det {n : Int} (hn : yearN n) {k : Nat} (hk : k < 6) : splV (prF (k + 1) (txF (k + 1) n)) = splV (Clk.fo n) := by
  obtain ⟨m, hm, e, hp⟩ := pr_spec (k := k + 1) (s := txF (k + 1) n) ⟨n, hn, rfl⟩
  obtain ⟨H1, x1, e1⟩ := parse_all hn k hk
  obtain ⟨H2, x2, e2⟩ := parse_all hm k hk
  rw [← e, e1] at e2
  rw [hp]
  have := congrArg (fun o => o.map fun r => r.1) e2
  simp only [Option.map_some, Option.some.injEq] at this
  exact this.symm
theorem splV_inj {x y : Nat} (h : splV x = splV y) : sYF x = sYF y ∧ sMF x = sMF y ∧ sDF x = sDF y ∧ shF x = shF y ∧ siF x = siF y ∧ sSF x = sSF y ∧ sWF x = sWF y ∧ sJF x = sJF y := by
  unfold splV at h
  simp only [Value.tuple.injEq, Value.agg.injEq, Array.mk.injEq, List.cons.injEq, Value.int.injEq, Value.float.injEq, and_true, true_and] at h
  exact h
theorem pa_sound : PSound cx0 paA.pfn := psound_startB' fun args v h => by
  obtain ⟨hv, hk⟩ := afn_some h
  replace hv : paV args = some v := hv
  replace hk : paK args = true := hk
  unfold paV at hv
  split at hv
  · rename_i s f hx
    have ha := args_list hx
    subst ha
    split at hv
    · cases hv
    · rename_i k hq
      cases hv
      have hok : pkF (k + 1) s = true := by simpa [paK, hq] using hk
      have hex := (pkF_iff _ _).1 hok
      obtain ⟨m, hm, e, hp⟩ := pr_spec hex
      obtain ⟨hk6, rfl⟩ := fmtK_N hq
      refine ⟨rfl, rfl, laP, lpP, laP_sound, lpP_sound, 120, ?_⟩
      rw [hp, e]
      exact parse_all hm k hk6
  · cases hv
theorem laB_sound : ∀ e ∈ laB, PSound cx0 e.pfn := asound_cons csp3_sound (asound_cons fm_sound (asound_cons pa_sound (asound_cons sm_sound asound_nil)))
theorem year_ge {d : Int} (h : -354285 ≤ d) : 1000 ≤ Clk.dateYear d := by
  have e1 : Clk.dateYear (-354285) = 1000 := by decide +kernel
  have e2 : Clk.dateMonth (-354285) = 0 := by decide +kernel
  have r := Clk.date_ranges d
  rcases Int.lt_or_le (-354285) d with q | q
  · have m := Clk.date_mono (-354285) d q
    rw [e1, e2] at m
    omega
  · have : d = -354285 := by omega
    rw [this, e1]; omega
section
variable {d second : Int} (h1 : -354285 ≤ d) (h2 : d ≤ 2932896)
include h1 h2
theorem bX_eq : ∃ n, yearN n ∧ bX d second = Clk.fo n := by
  have hs : 0 ≤ Int.tmod (IntKind.wrap IntKind.u64 second) 86400 ∧ Int.tmod (IntKind.wrap IntKind.u64 second) 86400 < 86400 := by
    have hu : 0 ≤ IntKind.wrap IntKind.u64 second := by
      rw [IntKind.wrap_u64]
      omega
    rw [Int.tmod_eq_emod_of_nonneg hu]
    omega
  refine ⟨86400 * d + Int.tmod (IntKind.wrap IntKind.u64 second) 86400, ?_, ?_⟩
  · generalize Int.tmod (IntKind.wrap IntKind.u64 second) 86400 = r at hs
    have e : (86400 * d + r) / 86400 = d := by omega
    unfold yearN
    rw [e]
    exact ⟨by omega, by omega, year_ge h1⟩
  · unfold bX
    generalize Int.tmod (IntKind.wrap IntKind.u64 second) 86400 = r at hs
    rw [wrap_id (86400 * d) (by omega) (by omega), wrap_id r (by omega) (by omega), wrap_id _ (by omega) (by omega)]
    rfl
theorem b_facts : (((fsecF (bX d second)) == true) = true) ∧ (((decide ((sYF (bX d second)) < 1000)) == false) = true) ∧ (((decide ((sYF (bX d second)) > 9999)) == false) = true) ∧ (((isoKF (sYF (bX d second)) (sMF (bX d second)) (sDF (bX d second)) (shF (bX d second)) (siF (bX d second)) (sSF (bX d second))) == true) = true) ∧
    ∀ k, k < 6 → (((pkF (k + 1) (bT (k + 1) (bX d second))) == true) = true) ∧ ((sam8F (sYF (bX d second)) (sMF (bX d second)) (sDF (bX d second)) (shF (bX d second)) (siF (bX d second)) (sWF (bX d second)) (sJF (bX d second)) (sYF (bP (k + 1) (bX d second))) (sMF (bP (k + 1) (bX d second))) (sDF (bP (k + 1) (bX d second))) (shF (bP (k + 1) (bX d second))) (siF (bP (k + 1) (bX d second))) (sWF (bP (k + 1) (bX d second))) (sJF (bP (k + 1) (bX d second)))) = true) ∧ (((sm2F (sSF (bX d second)) (sSF (bP (k + 1) (bX d second)))) == true) = true) := by
  obtain ⟨n, hn, e⟩ := bX_eq (second := second) h1 h2
  rw [e]
  have hn' := hn
  obtain ⟨n1, n2, n3⟩ := hn'
  have f : f2i .f64 (Clk.fo n) = n := Clk.f2i_fo _ (by omega)
  have yr := Clk.dateYear_range (n / 86400) (by omega) (by omega)
  have eY : sYF (Clk.fo n) = Clk.dateYear (n / 86400) := by unfold sYF; rw [f]
  have it : isTF (sYF (Clk.fo n)) (sMF (Clk.fo n)) (sDF (Clk.fo n)) (shF (Clk.fo n)) (siF (Clk.fo n)) (sSF (Clk.fo n)) = true := by
    unfold sYF sMF sDF shF siF sSF
    rw [f]
    exact isT_of n n1 n2
  have ebN : bN (Clk.fo n) = n := by
    unfold bN nsF sYF sMF sDF shF siF sSF
    rw [f, Clk.f2i_fo (n % 60) (by omega)]
    exact secs_back n
  refine ⟨by rw [fsec_of n1 n2]; rfl, by rw [eY]; exact df (by omega), by rw [eY]; exact df (by omega), ?_, fun k hk => ?_⟩
  · have : isoKF (sYF (Clk.fo n)) (sMF (Clk.fo n)) (sDF (Clk.fo n)) (shF (Clk.fo n)) (siF (Clk.fo n)) (sSF (Clk.fo n)) = true := by
      unfold isoKF
      rw [it, eY]
      unfold it4F
      simp only [Bool.true_and, Bool.and_eq_true, decide_eq_true_eq]
      omega
    rw [this]; rfl
  · have ebT : bT (k + 1) (Clk.fo n) = txF (k + 1) n := by unfold bT; rw [ebN]
    have dt := splV_inj (pr_det hn hk)
    obtain ⟨a1, a2, a3, a4, a5, a6, a7, a8⟩ := dt
    unfold bP
    rw [ebT]
    refine ⟨?_, ?_, ?_⟩
    · have : pkF (k + 1) (txF (k + 1) n) = true := (pkF_iff _ _).2 ⟨n, hn, rfl⟩
      rw [this]; rfl
    · rw [a1, a2, a3, a4, a5, a7, a8]
      unfold sam8F
      simp
    · rw [a6]
      unfold sm2F
      simp
end
theorem back_ev (day second : Int) : ∃ H' nx', evFunc (withB laB lpQ) 120 5 #[.int .i64 day, .int .i64 second] H0 12 = some (.bool true, H', nx') := by
  have h1 : Int.tmod day 2932897 < 2932897 := Int.tmod_lt_of_pos day (by decide)
  have h2 : -2932897 < Int.tmod day 2932897 := by
    rcases Int.lt_or_le day 0 with q | q
    · have := Int.tmod_lt_of_pos (-day) (show (0 : Int) < 2932897 by decide)
      rw [Int.neg_tmod] at this
      omega
    · have := Int.tmod_nonneg 2932897 q
      omega
  by_cases hc : Int.tmod day 2932897 < -354285
  · have hw : IntKind.wrap IntKind.i64 (0 - Int.tmod day 2932897) = 0 - Int.tmod day 2932897 := wrap_id _ (by omega) (by omega)
    obtain ⟨a, b, c, d, f⟩ := b_facts (d := IntKind.wrap IntKind.i64 (0 - Int.tmod day 2932897)) (second := second) (by rw [hw]; omega) (by rw [hw]; omega)
    exact bckB day second (dt hc) (bL_ok (by unfold bU; exact (forall_cons a (forall_cons b (forall_cons c (forall_cons d (forall_cons (f 0 (by decide)).1 (forall_cons (f 0 (by decide)).2.1 (forall_cons (f 0 (by decide)).2.2 (forall_cons (f 1 (by decide)).1 (forall_cons (f 1 (by decide)).2.1 (forall_cons (f 1 (by decide)).2.2 (forall_cons (f 2 (by decide)).1 (forall_cons (f 2 (by decide)).2.1 (forall_cons (f 2 (by decide)).2.2 (forall_cons (f 3 (by decide)).1 (forall_cons (f 3 (by decide)).2.1 (forall_cons (f 3 (by decide)).2.2 (forall_cons (f 4 (by decide)).1 (forall_cons (f 4 (by decide)).2.1 (forall_cons (f 4 (by decide)).2.2 (forall_cons (f 5 (by decide)).1 (forall_cons (f 5 (by decide)).2.1 (forall_cons (f 5 (by decide)).2.2 forall_nil))))))))))))))))))))))))
  · obtain ⟨a, b, c, d, f⟩ := b_facts (d := Int.tmod day 2932897) (second := second) (by omega) (by omega)
    exact bckA day second (df hc) (bL_ok (by unfold bU; exact (forall_cons a (forall_cons b (forall_cons c (forall_cons d (forall_cons (f 0 (by decide)).1 (forall_cons (f 0 (by decide)).2.1 (forall_cons (f 0 (by decide)).2.2 (forall_cons (f 1 (by decide)).1 (forall_cons (f 1 (by decide)).2.1 (forall_cons (f 1 (by decide)).2.2 (forall_cons (f 2 (by decide)).1 (forall_cons (f 2 (by decide)).2.1 (forall_cons (f 2 (by decide)).2.2 (forall_cons (f 3 (by decide)).1 (forall_cons (f 3 (by decide)).2.1 (forall_cons (f 3 (by decide)).2.2 (forall_cons (f 4 (by decide)).1 (forall_cons (f 4 (by decide)).2.1 (forall_cons (f 4 (by decide)).2.2 (forall_cons (f 5 (by decide)).1 (forall_cons (f 5 (by decide)).2.1 (forall_cons (f 5 (by decide)).2.2 forall_nil))))))))))))))))))))))))
end Go.Proofs.YthopphfehgdocaaGreatDoor
