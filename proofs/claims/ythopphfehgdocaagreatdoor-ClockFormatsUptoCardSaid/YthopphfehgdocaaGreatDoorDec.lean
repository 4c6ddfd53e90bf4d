import Derived.Test.YthopphfehgdocaaGreatDoorRef3
import Derived.Lib.ItoaLen
set_option linter.unusedSimpArgs false
set_option linter.unusedVariables false
namespace Go.Proofs.YthopphfehgdocaaGreatDoor
open Go Go.RowKit Go.Ev Go.Proofs Go.Shelf
noncomputable def dcB : Code := loopB Tryz.f174 0
def dcS (u : Int) (sg s : ByteArray) : St := canon 5 12 [(3, .int .u64 u), (4, .string sg), (5, .string s)] []
theorem dec_neg (n : Int) (h1 : ((decide (n < 0)) == true) = true) {Q : AExit → St → Prop} {c' : Code} {lc' : List Code} (hq : TrL (withFns cx0 [] []) 12 31 (c' :: lc') (canon 5 12 [(3, (Value.int IntKind.u64 (IntKind.u64.wrap (0 - (IntKind.u64.wrap n))))), (4, (Value.string (ByteArray.mk #[45]))), (5, (Value.string (ByteArray.mk #[])))] []) Q) : TrL (withFns cx0 [] []) 12 31 ((bodyOf Tryz.f174).take 6 ++ c' :: lc') (entry Tryz.f174 #[.int .i64 n] H0 12) Q :=
 TrL.road (hkW [] []) (CxOk.withFns cx_ok [] []) (withFns_intr asound_nil psound_nil) (m := [true]) (bl := [((decide (n < 0)) == true)]) (p := [true]) (k := 5) (n := 30) (d := 5) (nx2 := 12) (l := [(3, (Value.int IntKind.u64 (IntKind.u64.wrap (0 - (IntKind.u64.wrap n))))), (4, (Value.string (ByteArray.mk #[45]))), (5, (Value.string (ByteArray.mk #[])))]) (L := []) (by kernel_rfl) (by kernel_rfl) (by kernel_rfl) (by kernel_rfl) (fun r hr => jN) (by kernel_rfl) (aC h1 aN) hq
theorem dec_pos (n : Int) (h1 : ((decide (n < 0)) == false) = true) {Q : AExit → St → Prop} {c' : Code} {lc' : List Code} (hq : TrL (withFns cx0 [] []) 12 31 (c' :: lc') (canon 5 12 [(3, (Value.int IntKind.u64 (IntKind.u64.wrap n))), (4, (Value.string (ByteArray.mk #[]))), (5, (Value.string (ByteArray.mk #[])))] []) Q) : TrL (withFns cx0 [] []) 12 31 ((bodyOf Tryz.f174).take 6 ++ c' :: lc') (entry Tryz.f174 #[.int .i64 n] H0 12) Q :=
 TrL.road (hkW [] []) (CxOk.withFns cx_ok [] []) (withFns_intr asound_nil psound_nil) (m := [true]) (bl := [((decide (n < 0)) == false)]) (p := [false]) (k := 5) (n := 30) (d := 5) (nx2 := 12) (l := [(3, (Value.int IntKind.u64 (IntKind.u64.wrap n))), (4, (Value.string (ByteArray.mk #[]))), (5, (Value.string (ByteArray.mk #[])))]) (L := []) (by kernel_rfl) (by kernel_rfl) (by kernel_rfl) (by kernel_rfl) (fun r hr => jN) (by kernel_rfl) (aC h1 aN) hq
theorem dec_more (u : Int) (sg s : ByteArray) (h1 : ((decide (u > 0)) == true) = true) (h2 : (decide ((((((ByteArray.size (ByteArray.mk #[(UInt8.ofNat (Int.toNat (IntKind.wrap IntKind.u8 (IntKind.u64.wrap (48 + (Int.tmod u 10))))))])) + (ByteArray.size s)) : Nat) : Int)) ≤ (Int.ofNat (9223372036854775808 - 1)))) = true) {Q : AExit → St → Prop} (hq : Q .normal (canon 5 12 [(3, (Value.int IntKind.u64 (IntKind.u64.wrap (Int.tdiv u 10)))), (4, (Value.string sg)), (5, (Value.string ((ByteArray.mk #[(UInt8.ofNat (Int.toNat (IntKind.wrap IntKind.u8 (IntKind.u64.wrap (48 + (Int.tmod u 10))))))]) ++ s)))] [])) : Tr (withFns cx0 [] []) 12 31 (dcB) (dcS u sg s) Q :=
 Tr.road (hkW [] []) (CxOk.withFns cx_ok [] []) (withFns_intr asound_nil psound_nil) (m := [true, true, true, false, false, false, true]) (bl := [((decide (u > 0)) == true), ((decide (u > 0)) == true), ((decide (u > 0)) == true), (decide ((((((ByteArray.size (ByteArray.mk #[(UInt8.ofNat (Int.toNat (IntKind.wrap IntKind.u8 (IntKind.u64.wrap (48 + (Int.tmod u 10))))))])) + (ByteArray.size s)) : Nat) : Int)) ≤ (Int.ofNat (9223372036854775808 - 1))))]) (p := [true, true, true, true]) (k := 5) (n := 30) (d := 5) (nx2 := 12) (l := [(3, (Value.int IntKind.u64 (IntKind.u64.wrap (Int.tdiv u 10)))), (4, (Value.string sg)), (5, (Value.string ((ByteArray.mk #[(UInt8.ofNat (Int.toNat (IntKind.wrap IntKind.u8 (IntKind.u64.wrap (48 + (Int.tmod u 10))))))]) ++ s)))]) (L := []) (e := .normal) (by kernel_rfl) (by kernel_rfl) (by kernel_rfl) (by kernel_rfl) (fun r hr => jN) (by kernel_rfl) (C3 h1 (aC h2 aN)) hq
theorem dec_first (u : Int) (sg s : ByteArray) (h1 : ((decide (u > 0)) == false) = true) (h2 : (((ByteArray.toList s) == (ByteArray.toList (ByteArray.mk #[]))) == true) = true) (h3 : (decide ((((((ByteArray.size (ByteArray.mk #[(UInt8.ofNat (Int.toNat (IntKind.wrap IntKind.u8 (IntKind.u64.wrap (48 + (Int.tmod u 10))))))])) + (ByteArray.size s)) : Nat) : Int)) ≤ (Int.ofNat (9223372036854775808 - 1)))) = true) {Q : AExit → St → Prop} (hq : Q .normal (canon 5 12 [(3, (Value.int IntKind.u64 (IntKind.u64.wrap (Int.tdiv u 10)))), (4, (Value.string sg)), (5, (Value.string ((ByteArray.mk #[(UInt8.ofNat (Int.toNat (IntKind.wrap IntKind.u8 (IntKind.u64.wrap (48 + (Int.tmod u 10))))))]) ++ s)))] [])) : Tr (withFns cx0 [] []) 12 31 (dcB) (dcS u sg s) Q :=
 Tr.road (hkW [] []) (CxOk.withFns cx_ok [] []) (withFns_intr asound_nil psound_nil) (m := [true, true, true, true, false, false, true]) (bl := [((decide (u > 0)) == false), ((decide (u > 0)) == false), ((decide (u > 0)) == false), (((ByteArray.toList s) == (ByteArray.toList (ByteArray.mk #[]))) == true), (decide ((((((ByteArray.size (ByteArray.mk #[(UInt8.ofNat (Int.toNat (IntKind.wrap IntKind.u8 (IntKind.u64.wrap (48 + (Int.tmod u 10))))))])) + (ByteArray.size s)) : Nat) : Int)) ≤ (Int.ofNat (9223372036854775808 - 1))))]) (p := [false, false, false, true]) (k := 5) (n := 30) (d := 5) (nx2 := 12) (l := [(3, (Value.int IntKind.u64 (IntKind.u64.wrap (Int.tdiv u 10)))), (4, (Value.string sg)), (5, (Value.string ((ByteArray.mk #[(UInt8.ofNat (Int.toNat (IntKind.wrap IntKind.u8 (IntKind.u64.wrap (48 + (Int.tmod u 10))))))]) ++ s)))]) (L := []) (e := .normal) (by kernel_rfl) (by kernel_rfl) (by kernel_rfl) (by kernel_rfl) (fun r hr => jN) (by kernel_rfl) (C3 h1 (aC h2 (aC h3 aN))) hq
theorem dec_out (u : Int) (sg s : ByteArray) (h1 : ((decide (u > 0)) == false) = true) (h2 : (((ByteArray.toList s) == (ByteArray.toList (ByteArray.mk #[]))) == false) = true) {Q : AExit → St → Prop} (hq : Q (.exit 0) (canon 5 12 [(3, (Value.int IntKind.u64 u)), (4, (Value.string sg)), (5, (Value.string s))] [])) : Tr (withFns cx0 [] []) 12 31 (dcB) (dcS u sg s) Q :=
 Tr.road (hkW [] []) (CxOk.withFns cx_ok [] []) (withFns_intr asound_nil psound_nil) (m := [true, true, true, true]) (bl := [((decide (u > 0)) == false), ((decide (u > 0)) == false), ((decide (u > 0)) == false), (((ByteArray.toList s) == (ByteArray.toList (ByteArray.mk #[]))) == false)]) (p := [false, false, false, false]) (k := 5) (n := 30) (d := 5) (nx2 := 12) (l := [(3, (Value.int IntKind.u64 u)), (4, (Value.string sg)), (5, (Value.string s))]) (L := []) (e := (.exit 0)) (by kernel_rfl) (by kernel_rfl) (by kernel_rfl) (by kernel_rfl) (fun r hr => jN) (by kernel_rfl) (C3 h1 (aC h2 aN)) hq
theorem dec_fin (u : Int) (sg s : ByteArray) {R : Value → Hp → Nat → Prop} (h1 : (decide ((((((ByteArray.size sg) + (ByteArray.size s)) : Nat) : Int)) ≤ (Int.ofNat (9223372036854775808 - 1)))) = true) (hq : ∀ H nx, R (oneOf [(Value.string (sg ++ s))]) H nx) : TrL (withFns cx0 [] []) 12 31 ((bodyOf Tryz.f174).drop 7) (dcS u sg s) (fun e s2 => (match e with | .exit _ => False | _ => True) ∧ ∃ l, evResults (withFns cx0 [] []) s2.tm s2.H Tryz.f174.results.toList = some l ∧ R (oneOf l) s2.H s2.nx) :=
 TrL.fin (hkW [] []) (CxOk.withFns cx_ok [] []) (withFns_intr asound_nil psound_nil) (m := [true]) (bl := [(decide ((((((ByteArray.size sg) + (ByteArray.size s)) : Nat) : Int)) ≤ (Int.ofNat (9223372036854775808 - 1))))]) (p := []) (k := 5) (n := 30) (vs := [(Value.string (sg ++ s))]) (by kernel_rfl) (by kernel_rfl) (by kernel_rfl) (by kernel_rfl) (by kernel_rfl) (aC h1 aN) hq
theorem ba_append (a b : List UInt8) : (⟨a.toArray⟩ : ByteArray) ++ ⟨b.toArray⟩ = ⟨(a ++ b).toArray⟩ := by
 apply ByteArray.ext
 simp
theorem ba_toList (s : ByteArray) : s.toList = s.data.toList := ByteArray.toList_eq s
def dgs (k : Nat) (s : ByteArray) : ByteArray := if k = 0 ∧ s.size ≠ 0 then s else ⟨(Lib.decDigits k).toArray⟩ ++ s
def dig1 (k : Nat) : ByteArray := ⟨#[UInt8.ofNat (48 + k % 10)]⟩
theorem dgs_step (k : Nat) (s : ByteArray) (h : 0 < k ∨ s.size = 0) : dgs (k / 10) (dig1 k ++ s) = dgs k s := by
 have h1 : ¬ (k = 0 ∧ s.size ≠ 0) := by omega
 have hsz : (dig1 k ++ s).size ≠ 0 := by rw [ByteArray.size_append]; show 1 + s.size ≠ 0; omega
 unfold dgs
 rw [if_neg h1]
 by_cases hk : k < 10
 ·have hk0 : k / 10 = 0 := by omega
  rw [if_pos ⟨hk0, hsz⟩, Lib.decDigits_one hk]
  unfold dig1
  rw [Nat.mod_eq_of_lt hk]
 ·rw [if_neg (by omega)]
  conv => rhs; rw [Lib.decDigits, dif_neg hk]
  rw [← ba_append, ByteArray.append_assoc]
  rfl
theorem dig_eq (k : Nat) (hk : k < 18446744073709551616) : (⟨#[(UInt8.ofNat (Int.toNat (IntKind.u8.wrap (IntKind.u64.wrap (48 + (Int.tmod (k : Int) 10))))))]⟩ : ByteArray) = dig1 k := by
 have h1 : Int.tmod (k : Int) 10 = ((k % 10 : Nat) : Int) := by rw [Int.tmod_eq_emod_of_nonneg (by omega)]; omega
 rw [h1]
 have h2 : IntKind.u64.wrap (48 + ((k % 10 : Nat) : Int)) = 48 + ((k % 10 : Nat) : Int) := by
  have : k % 10 < 10 := Nat.mod_lt _ (by decide)
  simp only [IntKind.wrap, IntKind.signed, IntKind.bits, Bool.false_and, Bool.false_eq_true, if_false]
  omega
 have h3 : IntKind.u8.wrap (48 + ((k % 10 : Nat) : Int)) = 48 + ((k % 10 : Nat) : Int) := by
  have : k % 10 < 10 := Nat.mod_lt _ (by decide)
  simp only [IntKind.wrap, IntKind.signed, IntKind.bits, Bool.false_and, Bool.false_eq_true, if_false]
  omega
 rw [h2, h3]
 have h4 : (48 + ((k % 10 : Nat) : Int)).toNat = 48 + k % 10 := by omega
 rw [h4]
 rfl
theorem div_u64 (k : Nat) (hk : k < 18446744073709551616) : IntKind.u64.wrap (Int.tdiv (k : Int) 10) = ((k / 10 : Nat) : Int) := by
 rw [Int.tdiv_eq_ediv_of_nonneg (by omega)]
 simp only [IntKind.wrap, IntKind.signed, IntKind.bits, Bool.false_and, Bool.false_eq_true, if_false]
 omega
theorem u64_pos (n : Int) (h0 : 0 ≤ n) (h1 : n < 18446744073709551616) : IntKind.u64.wrap n = n := by
 simp only [IntKind.wrap, IntKind.signed, IntKind.bits, Bool.false_and, Bool.false_eq_true, if_false]
 omega
theorem u64_neg (n : Int) (h0 : n < 0) (h1 : -9223372036854775808 ≤ n) : IntKind.u64.wrap (0 - IntKind.u64.wrap n) = -n := by
 simp only [IntKind.wrap, IntKind.signed, IntKind.bits, Bool.false_and, Bool.false_eq_true, if_false]
 omega
theorem str_cond (a b : ByteArray) (h : a.size + b.size ≤ 1000000) : decide ((((a.size + b.size : Nat)) : Int) ≤ Int.ofNat (9223372036854775808 - 1)) = true := by
 rw [decide_eq_true_iff]
 show ((a.size + b.size : Nat) : Int) ≤ 9223372036854775807
 omega
theorem dgs_size (k : Nat) (s : ByteArray) : s.size ≤ (dgs k s).size := by
 unfold dgs
 split
 ·exact Nat.le_refl _
 ·rw [ByteArray.size_append]; omega
def dcI (sg D : ByteArray) (m : Nat) (s : St) : Prop := ∃ (k : Nat) (str : ByteArray), s = dcS (k : Int) sg str ∧ k < 18446744073709551616 ∧ dgs k str = D ∧ m = k + (if str.size = 0 then 1 else 0)
theorem dec_loop (sg D : ByteArray) (hD : D.size ≤ 1000) (k : Nat) (str : ByteArray) (hk : k < 18446744073709551616) (hd : dgs k str = D) :
  Tr (withFns cx0 [] []) 12 31 (.loop dcB) (dcS (k : Int) sg str) fun e s => e = .exit 0 ∧ s = dcS 0 sg D := by
 refine Tr.loop (dcI sg D) ?_ (m := k + (if str.size = 0 then 1 else 0)) ⟨k, str, rfl, hk, hd, rfl⟩
 rintro m s ⟨k, str, rfl, hk, hd, rfl⟩
 have hs := dgs_size k str
 rw [hd] at hs
 have hemp : ((ByteArray.toList str) == (ByteArray.toList (ByteArray.mk #[]))) = decide (str.size = 0) := by
  rw [ba_toList, ba_toList, Bool.eq_iff_iff, beq_iff_eq, decide_eq_true_iff]
  show str.data.toList = [] ↔ str.data.size = 0
  cases str.data with
  | mk l => cases l <;> simp
 have hc : decide ((((((ByteArray.size (ByteArray.mk #[(UInt8.ofNat (Int.toNat (IntKind.wrap IntKind.u8 (IntKind.u64.wrap (48 + (Int.tmod (k : Int) 10))))))])) + (ByteArray.size str)) : Nat) : Int)) ≤ (Int.ofNat (9223372036854775808 - 1))) = true :=
  str_cond _ _ (by show 1 + str.size ≤ _; omega)
 have next : 0 < k ∨ str.size = 0 → ∃ m', m' < k + (if str.size = 0 then 1 else 0) ∧ dcI sg D m' (canon 5 12 [(3, (Value.int IntKind.u64 (IntKind.u64.wrap (Int.tdiv (k : Int) 10)))), (4, (Value.string sg)), (5, (Value.string ((ByteArray.mk #[(UInt8.ofNat (Int.toNat (IntKind.wrap IntKind.u8 (IntKind.u64.wrap (48 + (Int.tmod (k : Int) 10))))))]) ++ str)))] []) := by
  intro h
  rw [dig_eq k hk, div_u64 k hk]
  have hsz : (dig1 k ++ str).size ≠ 0 := by rw [ByteArray.size_append]; show 1 + str.size ≠ 0; omega
  refine ⟨k / 10, ?_, k / 10, dig1 k ++ str, rfl, by omega, by rw [dgs_step k str h]; exact hd, by rw [if_neg hsz]; rfl⟩
  rcases h with h | h
  ·split <;> omega
  ·rw [if_pos h]; omega
 by_cases h0 : 0 < k
 ·have hu : (decide ((k : Int) > 0) == true) = true := by simp [h0]
  exact dec_more (k : Int) sg str hu hc (next (.inl h0))
 ·have hk0 : k = 0 := by omega
  have hu : (decide ((k : Int) > 0) == false) = true := by simp [hk0]
  by_cases hz : str.size = 0
  ·exact dec_first (k : Int) sg str hu (by rw [hemp]; simp [hz]) hc (next (.inr hz))
  ·refine dec_out (k : Int) sg str hu (by rw [hemp]; simp [hz]) ⟨rfl, ?_⟩
   have : dgs k str = str := by unfold dgs; rw [if_pos ⟨hk0, hz⟩]
   rw [← hd, this, hk0]
   rfl
noncomputable def code174 : Code := match Tryz.f174.body with
 | some c => c
 | none => .skip
theorem dec_pieces : bodyOf Tryz.f174 = (bodyOf Tryz.f174).take 6 ++ (.block 0 (.loop dcB) :: (bodyOf Tryz.f174).drop 7) := by kernel_rfl
theorem itoa_size (n : Int) (h0 : -9223372036854775808 ≤ n) (h1 : n ≤ 9223372036854775807) : (itoaF n).size ≤ 21 := by
 have := Lib.itoa_length_le n h0 h1
 show (Lib.itoa n).toArray.size ≤ 21
 simpa using this
theorem dgs_empty (k : Nat) : dgs k (ByteArray.mk #[]) = ⟨(Lib.decDigits k).toArray⟩ := by
 unfold dgs
 rw [if_neg (by simp [ByteArray.size])]
 apply ByteArray.ext
 simp
theorem dec_tr (n : Int) (h0 : -9223372036854775808 ≤ n) (h1 : n ≤ 9223372036854775807) :
  Tr (withFns cx0 [] []) 12 31 code174 (entry Tryz.f174 #[.int .i64 n] H0 12) fun x s => (match x with | .exit _ => False | _ => True) ∧ ∃ l, evResults (withFns cx0 [] []) s.tm s.H Tryz.f174.results.toList = some l ∧ oneOf l = .string (itoaF n) := by
 refine Tr.of_spine code174 ?_
 show TrL _ 12 31 (bodyOf Tryz.f174) _ _
 rw [dec_pieces]
 have hsz := itoa_size n h0 h1
 have tail : ∀ (k : Nat) (sg : ByteArray), k < 18446744073709551616 → sg ++ ⟨(Lib.decDigits k).toArray⟩ = itoaF n →
   TrL (withFns cx0 [] []) 12 31 (.block 0 (.loop dcB) :: (bodyOf Tryz.f174).drop 7) (dcS (k : Int) sg (ByteArray.mk #[])) fun x s => (match x with | .exit _ => False | _ => True) ∧ ∃ l, evResults (withFns cx0 [] []) s.tm s.H Tryz.f174.results.toList = some l ∧ oneOf l = .string (itoaF n) := by
  intro k sg hk he
  have hl : sg.size + (⟨(Lib.decDigits k).toArray⟩ : ByteArray).size ≤ 21 := by rw [← ByteArray.size_append, he]; exact hsz
  refine Tr.block (dec_loop sg ⟨(Lib.decDigits k).toArray⟩ (by omega) k _ hk (dgs_empty k)) ?_ ?_
  ·rintro s1 ⟨_, rfl⟩
   refine dec_fin 0 sg _ (R := fun v _ _ => v = .string (itoaF n)) (str_cond _ _ (by omega)) (fun H nx => ?_)
   show Value.string _ = _
   rw [he]
  ·rintro e s1 ⟨rfl, _⟩ hne
   exact absurd rfl hne
 by_cases hn : n < 0
 ·refine dec_neg n (by simp [hn]) ?_
  rw [u64_neg n hn h0]
  have hk : (-n) = ((n.natAbs : Nat) : Int) := by omega
  rw [hk]
  refine tail n.natAbs (ByteArray.mk #[45]) (by omega) ?_
  unfold itoaF Lib.itoa
  rw [if_pos hn]
  exact ba_append [45] _
 ·refine dec_pos n (by simp [hn]) ?_
  rw [u64_pos n (by omega) (by omega)]
  have hk : n = ((n.toNat : Nat) : Int) := by omega
  have e := tail n.toNat (ByteArray.mk #[]) (by omega) (by
   unfold itoaF Lib.itoa
   rw [if_neg hn]
   exact ba_append [] _)
  rw [← hk] at e
  exact e
def decA : AFn := { f := 174, val := itoaV, ok := itoaK }
theorem dec_sound : PSound cx0 decA.pfn := psound_tr asound_nil psound_nil fun args v h => by
 obtain ⟨hv, hk⟩ := afn_some h
 replace hv : itoaV args = some v := hv
 replace hk : itoaK args = true := hk
 unfold itoaV at hv
 split at hv
 ·rename_i n hx
  have ha := args_list hx
  subst ha
  cases hv
  have hn : i64F n = true := by simpa [itoaK] using hk
  unfold i64F at hn
  simp only [Bool.and_eq_true, decide_eq_true_eq] at hn
  exact ⟨rfl, rfl, Tryz.f174, code174, by kernel_rfl, by kernel_rfl, dec_tr n hn.1 hn.2⟩
 ·cases hv
end Go.Proofs.YthopphfehgdocaaGreatDoor
