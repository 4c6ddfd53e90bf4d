import Derived.Test.YthopphfehgdocaaGreatDoorPlc
import Derived.Test.YthopphfehgdocaaGreatDoorFm
import Derived.Test.YthopphfehgdocaaGreatDoorWx
set_option linter.unusedSimpArgs false
set_option linter.unusedVariables false
namespace Go.Proofs.YthopphfehgdocaaGreatDoor
open Go Go.RowKit Go.Ev Go.Proofs Go.Shelf
theorem wrK_of {k : UInt8 → Bool} (h : ∀ c, k c = true) : ∀ l, wrK k l = true
 | [] => rfl
 | [x] => rfl
 | x :: c :: r => by
  unfold wrK
  split
  ·rw [h, wrK_of h r]; rfl
  ·exact wrK_of h (c :: r)
theorem wrK_mono {k k' : UInt8 → Bool} (h : ∀ c, k c = true → k' c = true) : ∀ l, wrK k l = true → wrK k' l = true
 | [], _ => rfl
 | [x], _ => rfl
 | x :: c :: r, hk => by
  unfold wrK at hk ⊢
  split
  ·rename_i hx
   rw [if_pos hx, Bool.and_eq_true] at hk
   rw [h c hk.1, wrK_mono h r hk.2]; rfl
  ·rename_i hx
   rw [if_neg hx] at hk
   exact wrK_mono h (c :: r) hk
theorem wrL_size {d : UInt8 → ByteArray} {K : Nat} (hK : 1 ≤ K) (h : ∀ c, (d c).size ≤ K) : ∀ l, (wrL d l).size ≤ K * l.length
 | [] => Nat.zero_le _
 | [x] => by
  have : (wrL d [x]).size = 1 := rfl
  rw [this]
  show 1 ≤ K * 1
  omega
 | x :: c :: r => by
  unfold wrL
  have e : K * (x :: c :: r).length = K * r.length + K + K := by simp only [List.length_cons, Nat.mul_add, Nat.mul_one]
  have e2 : K * (c :: r).length = K * r.length + K := by simp only [List.length_cons, Nat.mul_add, Nat.mul_one]
  rw [e]
  split
  ·rw [ByteArray.size_append]
   have := wrL_size hK h r
   have := h c
   omega
  ·rw [ByteArray.size_append]
   have := wrL_size hK h (c :: r)
   have e3 : (⟨#[x]⟩ : ByteArray).size = 1 := rfl
   omega
theorem wrL_pos {d : UInt8 → ByteArray} (h : ∀ c, 1 ≤ (d c).size) : ∀ l, l ≠ [] → 1 ≤ (wrL d l).size
 | [], hl => absurd rfl hl
 | [x], _ => Nat.le_refl 1
 | x :: c :: r, _ => by
  unfold wrL
  split
  ·rw [ByteArray.size_append]
   have := h c
   omega
  ·rw [ByteArray.size_append]
   have e3 : (⟨#[x]⟩ : ByteArray).size = 1 := rfl
   omega
theorem lon_len (c : Int) : (longerF c).data.toList.length ≤ 20 := by
 unfold longerF
 repeat' split
 all_goals decide
theorem lon_K (c : Int) : wrK (fun x => wcInF x.toNat) (longerF c).data.toList = true := by
 unfold longerF
 repeat' split
 all_goals first | rfl | decide +kernel
theorem lon_in {c : Int} (h : wcInF c = true) : (longerF c).size = 0 := by
 by_cases e0 : c = 68
 ·subst e0; cases h
 by_cases e1 : c = 120
 ·subst e1; cases h
 by_cases e2 : c = 70
 ·subst e2; cases h
 by_cases e3 : c = 82
 ·subst e3; cases h
 by_cases e4 : c = 84
 ·subst e4; cases h
 by_cases e5 : c = 88
 ·subst e5; cases h
 by_cases e6 : c = 114
 ·subst e6; cases h
 by_cases e7 : c = 99
 ·subst e7; cases h
 unfold longerF
 simp only [e0, e1, e2, e3, e4, e5, e6, e7, if_false]
 rfl
theorem lon_ne {c : Int} (h : ¬ (longerF c).size = 0) : (longerF c).data.toList ≠ [] := fun e => h (by
 have := congrArg List.length e
 rw [len_list] at this
 exact this)
section
variable {Y M D ho mi : Int} {S : Nat} {n : Int} (E : EnvOf Y M D ho mi S n) (W0 J0 : Int)
include E
theorem dF_eq (c : UInt8) : dirWF Y M D ho mi (Clk.fo (n % 60)) (wdF (n / 86400)) (n / 86400 - Clk.number Y 0 1) n (cwks0F (n / 86400)) (cwks1F (n / 86400)) (cwks2F (n / 86400)) (cwks3F (n / 86400)) c = dir1F Y M D ho mi S W0 J0 n c := by
 unfold dirWF dir1F
 have hB : pieceBF c.toNat = wcInF c.toNat := rfl
 rw [hB]
 by_cases h : wcInF c.toNat = true
 ·rw [if_pos h, if_pos h]
  exact (pl_in E W0 J0 _ h).e
 ·rw [if_neg h, if_neg h]
theorem dF_size (c : UInt8) : 1 ≤ (dirWF Y M D ho mi (Clk.fo (n % 60)) (wdF (n / 86400)) (n / 86400 - Clk.number Y 0 1) n (cwks0F (n / 86400)) (cwks1F (n / 86400)) (cwks2F (n / 86400)) (cwks3F (n / 86400)) c).size ∧ (dirWF Y M D ho mi (Clk.fo (n % 60)) (wdF (n / 86400)) (n / 86400 - Clk.number Y 0 1) n (cwks0F (n / 86400)) (cwks1F (n / 86400)) (cwks2F (n / 86400)) (cwks3F (n / 86400)) c).size ≤ 23 := by
 unfold dirWF
 by_cases h : wcInF c.toNat = true
 ·rw [if_pos h]
  have p := pl_in E 0 0 _ h
  rw [p.e]
  exact ⟨p.lo, p.hi⟩
 ·rw [if_neg h]
  have e : (⟨#[37, c]⟩ : ByteArray).size = 2 := rfl
  omega
theorem dG_eq (c : UInt8) : dirWG Y M D ho mi (Clk.fo (n % 60)) (wdF (n / 86400)) (n / 86400 - Clk.number Y 0 1) n (cwks0F (n / 86400)) (cwks1F (n / 86400)) (cwks2F (n / 86400)) (cwks3F (n / 86400)) c = dir2F Y M D ho mi S W0 J0 n c := by
 unfold dirWG dir2F
 by_cases h : wcInF c.toNat = true
 ·rw [if_pos h, if_pos (lon_in h), ← dF_eq E W0 J0 c]
  unfold dirWF
  rw [if_pos h]
 ·rw [if_neg h]
  by_cases h2 : (longerF c.toNat).size = 0
  ·rw [if_pos h2, if_pos h2, ← dF_eq E W0 J0 c]
   unfold dirWF
   rw [if_neg h]
  ·rw [if_neg h2, if_neg h2]
   unfold wrF
   rw [funext (dF_eq E W0 J0)]
theorem lon_size (c : UInt8) (h2 : ¬ (longerF c.toNat).size = 0) : 1 ≤ (wrL (dirWF Y M D ho mi (Clk.fo (n % 60)) (wdF (n / 86400)) (n / 86400 - Clk.number Y 0 1) n (cwks0F (n / 86400)) (cwks1F (n / 86400)) (cwks2F (n / 86400)) (cwks3F (n / 86400))) (longerF c.toNat).data.toList).size ∧ (wrL (dirWF Y M D ho mi (Clk.fo (n % 60)) (wdF (n / 86400)) (n / 86400 - Clk.number Y 0 1) n (cwks0F (n / 86400)) (cwks1F (n / 86400)) (cwks2F (n / 86400)) (cwks3F (n / 86400))) (longerF c.toNat).data.toList).size ≤ 460 := by
 have a := wrL_size (K := 23) (by omega) (fun c => (dF_size E c).2) (longerF c.toNat).data.toList
 have b := lon_len c.toNat
 have d := wrL_pos (fun c => (dF_size E c).1) _ (lon_ne h2)
 exact ⟨d, Nat.le_trans a (Nat.mul_le_mul_left 23 b)⟩
theorem dG_size (c : UInt8) : (dirWG Y M D ho mi (Clk.fo (n % 60)) (wdF (n / 86400)) (n / 86400 - Clk.number Y 0 1) n (cwks0F (n / 86400)) (cwks1F (n / 86400)) (cwks2F (n / 86400)) (cwks3F (n / 86400)) c).size ≤ 460 := by
 have hf := dF_size E c
 unfold dirWF at hf
 unfold dirWG
 by_cases h : wcInF c.toNat = true
 ·rw [if_pos h] at hf ⊢
  omega
 ·rw [if_neg h] at hf ⊢
  by_cases h2 : (longerF c.toNat).size = 0
  ·rw [if_pos h2]; omega
  ·rw [if_neg h2]
   exact (lon_size E c h2).2
theorem dK_ok (c : UInt8) (h : wcInF c.toNat = true) : dirWK Y M D ho mi (Clk.fo (n % 60)) (wdF (n / 86400)) (n / 86400 - Clk.number Y 0 1) n (cwks0F (n / 86400)) (cwks1F (n / 86400)) (cwks2F (n / 86400)) (cwks3F (n / 86400)) c = true := by
 have p := pl_in E 0 0 _ h
 have q := p.lo
 rw [← p.e] at q
 unfold dirWK
 rw [if_pos h, p.c, decide_eq_true (by omega)]; rfl
theorem dH_ok (c : UInt8) : dirWH Y M D ho mi (Clk.fo (n % 60)) (wdF (n / 86400)) (n / 86400 - Clk.number Y 0 1) n (cwks0F (n / 86400)) (cwks1F (n / 86400)) (cwks2F (n / 86400)) (cwks3F (n / 86400)) c = true := by
 unfold dirWH
 by_cases h : wcInF c.toNat = true
 ·rw [if_pos h]
  have p := pl_in E 0 0 _ h
  have q := p.lo
  rw [← p.e] at q
  rw [p.c, decide_eq_true (by omega)]; rfl
 ·rw [if_neg h]
  by_cases h2 : (longerF c.toNat).size = 0
  ·rw [if_pos h2]
  ·rw [if_neg h2]
   have z := lon_size E c h2
   rw [wrK_mono (fun c h => dK_ok E c h) _ (lon_K _), decide_eq_true (by omega)]; rfl
theorem p_ok (c : UInt8) : pieceOkF Y M D ho mi S W0 J0 n c.toNat = true := by
 by_cases h : wcInF c.toNat = true
 ·exact (pl_in E W0 J0 _ h).r
 ·exact (pl_out E W0 J0 _ (by simpa using h)).2
theorem d1_ok (c : UInt8) (h : (longerF c.toNat).size = 0) : dir1Ok Y M D ho mi S W0 J0 n c = true := by
 unfold dir1Ok
 have z := (dF_size E c).1
 rw [dF_eq E W0 J0] at z
 rw [p_ok E W0 J0 c, h, decide_eq_true (by omega)]; rfl
theorem d2_ok (c : UInt8) : dir2Ok Y M D ho mi S W0 J0 n c = true := by
 unfold dir2Ok
 by_cases h2 : (longerF c.toNat).size = 0
 ·rw [if_pos h2]
  exact d1_ok E W0 J0 c h2
 ·rw [if_neg h2]
  have z := lon_size E c h2
  have e : wrF Y M D ho mi S W0 J0 n (longerF c.toNat) = wrL (dirWF Y M D ho mi (Clk.fo (n % 60)) (wdF (n / 86400)) (n / 86400 - Clk.number Y 0 1) n (cwks0F (n / 86400)) (cwks1F (n / 86400)) (cwks2F (n / 86400)) (cwks3F (n / 86400))) (longerF c.toNat).data.toList := by
   unfold wrF
   rw [funext (dF_eq E W0 J0)]
  have l := lon_len c.toNat
  rw [len_list] at l
  unfold wrOkF
  rw [e, p_ok E W0 J0 c, wrK_mono (fun c h => d1_ok E W0 J0 c (lon_in h)) _ (lon_K _), decide_eq_true (by omega), decide_eq_true (by omega), decide_eq_true (by omega)]; rfl
end
theorem fmt_all (Y M D ho mi : Int) (S : Nat) (W J : Int) (f : ByteArray) (hf : f.size ≤ 1048576) :
  fmtOkF Y M D ho mi S W J f = true ∧ rfmtOkF Y M D ho mi S W J f = true ∧ rfmt0F Y M D ho mi S W J f = fmtTF Y M D ho mi S W J f ∧ rfmt1F Y M D ho mi S W J f = fmtEF Y M D ho mi S W J f := by
 obtain ⟨a, b, h⟩ := norm_all Y M D ho mi S W J
 rcases h with ⟨h1, h2⟩ | ⟨n, T, N⟩
 ·refine ⟨?_, ?_, ?_, ?_⟩ <;> simp only [fmtOkF, rfmtOkF, rfmt0F, fmtTF, rfmt1F, fmtEF, a, b, h1, h2, Bool.not_false, cond_true, cond_false, Bool.and_self]
 ·have E := env_of T
  have s1 : (wrL (dirWG Y M D ho mi (Clk.fo (n % 60)) (wdF (n / 86400)) (n / 86400 - Clk.number Y 0 1) n (cwks0F (n / 86400)) (cwks1F (n / 86400)) (cwks2F (n / 86400)) (cwks3F (n / 86400))) f.data.toList).size ≤ 1000000000 := by
   have z := wrL_size (K := 460) (by omega) (dG_size E) f.data.toList
   rw [len_list] at z
   have : 460 * f.size ≤ 460 * 1048576 := Nat.mul_le_mul_left 460 hf
   omega
  have k1 : wrK (dirWH Y M D ho mi (Clk.fo (n % 60)) (wdF (n / 86400)) (n / 86400 - Clk.number Y 0 1) n (cwks0F (n / 86400)) (cwks1F (n / 86400)) (cwks2F (n / 86400)) (cwks3F (n / 86400))) f.data.toList = true := wrK_of (dH_ok E) _
  have k2 : wrK (dir2Ok Y M D ho mi S W J n) f.data.toList = true := wrK_of (d2_ok E W J) _
  have e : wrL (dirWG Y M D ho mi (Clk.fo (n % 60)) (wdF (n / 86400)) (n / 86400 - Clk.number Y 0 1) n (cwks0F (n / 86400)) (cwks1F (n / 86400)) (cwks2F (n / 86400)) (cwks3F (n / 86400))) f.data.toList = wxF Y M D ho mi S W J n f := by
   unfold wxF
   rw [funext (dG_eq E W J)]
  have hd : decide (f.size ≤ 1000000000) = true := decide_eq_true (by omega)
  have hd2 : decide ((wxF Y M D ho mi S W J n f).size ≤ 1000000000) = true := decide_eq_true (by rw [← e]; exact s1)
  have hx : wxOkF Y M D ho mi S W J n f = true := by
   unfold wxOkF
   rw [k2, hd, hd2]; rfl
  refine ⟨?_, ?_, ?_, ?_⟩ <;> simp only [fmtOkF, rfmtOkF, rfmt0F, fmtTF, rfmt1F, fmtEF, a, b, N.v0, N.v1, N.v2, N.v3, N.v4, N.v5, N.v6, N.v7, N.v8, N.v9, N.v10, N.v11, N.v12, N.v13, N.w0, N.w1, hx, k1, e, hd, hd2, Bool.not_true, cond_true, cond_false, Bool.and_self]
end Go.Proofs.YthopphfehgdocaaGreatDoor
