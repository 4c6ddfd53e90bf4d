import Derived.Test.YthopphfehgdocaaGreatDoorWb
set_option linter.unusedSimpArgs false
set_option linter.unusedVariables false
namespace Go.Ev
theorem Tr.of4 {cx : Cx} {n0 nt : Nat} {a b c d : Code} {s : St} {Q : AExit → St → Prop} (h : TrL cx n0 nt [a, b, c] s (fun e s1 => match e with | .normal => Tr cx n0 nt d s1 Q | e => Q e s1)) : Tr cx n0 nt (.seq (.seq a b) (.seq c d)) s Q := by
 refine Tr.seq (Q1 := fun e s1 => match e with | .normal => TrL cx n0 nt [c] s1 (fun e s1 => match e with | .normal => Tr cx n0 nt d s1 Q | e => Q e s1) | e => Q e s1) (Tr.seq h ?_ ?_) ?_ ?_
 ·intro s1 h1
  refine Tr.mono h1 fun e s2 q => ?_
  cases e <;> exact q
 ·intro e s1 q hne
  cases e <;> first | exact absurd rfl hne | exact q
 ·intro s1 h1
  refine Tr.seq h1 ?_ ?_
  ·intro s2 h2; exact h2
  ·intro e s2 q hne
   cases e <;> first | exact absurd rfl hne | exact q
 ·intro e s1 q hne
  cases e <;> first | exact absurd rfl hne | exact q
theorem Tr.of4' {cx : Cx} {n0 nt : Nat} {a b c d : Code} {s : St} {Q : AExit → St → Prop} (h : TrL cx n0 nt [a, b, c, d] s Q) : Tr cx n0 nt (.seq (.seq a b) (.seq c d)) s Q := by
 refine Tr.of4 ?_
 refine Tr.mono h fun e s1 q => ?_
 cases e with
 | exit k => exact q
 | ret => exact q
 | normal =>
  refine Tr.mono q fun e s2 q => ?_
  cases e with
  | exit k => exact q
  | ret => exact q
  | normal =>
   refine Tr.mono q fun e s3 q => ?_
   cases e with
   | exit k => exact q
   | ret => exact q
   | normal =>
    refine Tr.mono q fun e s4 q => ?_
    cases e <;> exact q
end Go.Ev
namespace Go.Proofs.YthopphfehgdocaaGreatDoor
open Go Go.RowKit Go.Ev Go.Proofs Go.Shelf
noncomputable def wcA : Code := match wcIn with | a :: _ => a | _ => .skip
noncomputable def wcA2 : Code := match wcIn with | _ :: a :: _ => a | _ => .skip
noncomputable def wcA3 : Code := match wcIn with | _ :: _ :: a :: _ => a | _ => .skip
theorem wc_inner : wcInC = .seq (.seq wcA wcA2) (.seq wcA3 wcR) := by kernel_rfl
theorem wc_take3 : wcIn.take 3 = [wcA, wcA2, wcA3] := by kernel_rfl
noncomputable def wcN : Code := unspine ((Go.Ev.spine wcB).drop 3)
theorem wc_rest : (Go.Ev.spine wcB).drop 3 = [wcN] := by kernel_rfl
section
variable (Y M D ho mi : Int) (S : Nat) (W J n iy iw su mo : Int) (f : ByteArray)
def wcSt (s : ByteArray) (i : Nat) : St := if s.size = 0 then wc0 Y M D ho mi S W J n iy iw su mo f i else wc1 Y M D ho mi S W J n iy iw su mo f i s
theorem wpost0 (b : Nat) (i : Int) (X : ByteArray) (k : Nat) (hk : k = X.size) : canon 7 112 (wT f i) (wB (Nat.add 0 k) :: (111, b, mkCells 111 5 1 false (bytesV X)) :: wBx Y M D ho mi S W J n iy iw su mo) = wc1 Y M D ho mi S W J n iy iw su mo f i X := by
 have : Nat.add 0 k = X.size := by rw [hk]; exact Nat.zero_add _
 rw [this]
 rfl
theorem wpost1 (b : Nat) (i : Int) (s X : ByteArray) (k : Nat) (hk : k = X.size) : canon 7 112 (wT f i) (wB (Nat.add s.size k) :: (111, b, mkCells 111 5 1 false (bytesV (s ++ X))) :: wBx Y M D ho mi S W J n iy iw su mo) = wc1 Y M D ho mi S W J n iy iw su mo f i (s ++ X) := by
 have : Nat.add s.size k = (s ++ X).size := by rw [hk, ByteArray.size_append]; rfl
 rw [this]
 rfl
theorem wcHp_old (s : ByteArray) : loadOld (wcHp s) 111 0 (Nat.mul s.size 1) = some (bytesV s) :=
 loadOld_row (ob := mkCells 111 5 1 false (bytesV s)) (by kernel_rfl) rfl
theorem wgrow_text (s X : ByteArray) (h0 : 0 < X.size) (h1 : s.size + X.size ≤ 1000000000) : growOk X.size 1 1 s.size s.size 0 (bytesV s).length (some (strL X)) (strL X) (loadOld (wcHp s) 111 0 (Nat.mul s.size 1)) = true :=
 growOk_ok rfl (strL_len X) (strL_one X) (by omega) (by omega) (bytesV_len s) (wcHp_old s)
theorem wgrow_one (s : ByteArray) (v : Value) (hv : oneCell v = true) (h1 : s.size + 1 ≤ 1000000000) : growOk 1 1 1 s.size s.size 0 (bytesV s).length (some [v]) [v] (loadOld (wcHp s) 111 0 (Nat.mul s.size 1)) = true :=
 growOk_ok rfl rfl (by simp [hv]) (by omega) (by omega) (bytesV_len s) (wcHp_old s)
end
section
variable (Y M D ho mi : Int) (S : Nat) (W J n iy iw su mo : Int) {f : ByteArray}
theorem wc_plain {s : ByteArray} {i : Nat} {x : UInt8} (hb : f.size ≤ 1000000000) (hi : i < f.size) (hx : f[i]? = some x) (h37 : x ≠ 37) (hs : s.size + 1 ≤ 1000000000) {Q : AExit → St → Prop} (hq : Q .normal (wcSt Y M D ho mi S W J n iy iw su mo f (s ++ ⟨#[x]⟩) (i + 1))) : Tr (withB laW lpV) 110 66 wcB (wcSt Y M D ho mi S W J n iy iw su mo f s i) Q := by
 have e1 : at1 f (i : Int) = ⟨#[x]⟩ := at1_eq hx
 have e2 : wrNx (i : Int) = ((i + 1 : Nat) : Int) := wrNx_eq i (by omega)
 have hne : (s ++ ⟨#[x]⟩).size ≠ 0 := by rw [ByteArray.size_append]; show s.size + 1 ≠ 0; omega
 unfold wcSt at hq
 rw [if_neg hne] at hq
 unfold wcSt
 by_cases h0 : s.size = 0
 ·rw [if_pos h0]
  refine wc0_plain Y M D ho mi S W J n iy iw su mo f i (c1 hi) (c2 hx) (c3 hx h37) (new_one _) ?_
  rw [wpost0 Y M D ho mi S W J n iy iw su mo f _ _ (at1 f (i : Int)) 1 rfl, e1, e2]
  have := ba_nil h0
  subst this
  rw [ByteArray.empty_append] at hq
  exact hq
 ·rw [if_neg h0]
  refine wc1_plain Y M D ho mi S W J n iy iw su mo f i s (c1 hi) (c2 hx) (c3 hx h37) (wgrow_one s _ rfl hs) ?_
  rw [wpost1 Y M D ho mi S W J n iy iw su mo f _ _ s (at1 f (i : Int)) 1 rfl, e1, e2]
  exact hq
theorem wc_last {s : ByteArray} {i : Nat} (hb : f.size ≤ 1000000000) (hi : i + 1 = f.size) (hx : f[i]? = some 37) (hs : s.size + 1 ≤ 1000000000) {Q : AExit → St → Prop} (hq : Q .normal (wcSt Y M D ho mi S W J n iy iw su mo f (s ++ ⟨#[37]⟩) (i + 1))) : Tr (withB laW lpV) 110 66 wcB (wcSt Y M D ho mi S W J n iy iw su mo f s i) Q := by
 have e1 : at1 f (i : Int) = ⟨#[37]⟩ := at1_eq hx
 have e2 : wrNx (i : Int) = ((i + 1 : Nat) : Int) := wrNx_eq i (by omega)
 have hne : (s ++ ⟨#[37]⟩).size ≠ 0 := by rw [ByteArray.size_append]; show s.size + 1 ≠ 0; omega
 unfold wcSt at hq
 rw [if_neg hne] at hq
 unfold wcSt
 by_cases h0 : s.size = 0
 ·rw [if_pos h0]
  refine wc0_last Y M D ho mi S W J n iy iw su mo f i (c1 (by omega)) (c2 hx) (c3n hx) (c4 hi hb) (new_one _) ?_
  rw [wpost0 Y M D ho mi S W J n iy iw su mo f _ _ (at1 f (i : Int)) 1 rfl, e1, e2]
  have := ba_nil h0
  subst this
  rw [ByteArray.empty_append] at hq
  exact hq
 ·rw [if_neg h0]
  refine wc1_last Y M D ho mi S W J n iy iw su mo f i s (c1 (by omega)) (c2 hx) (c3n hx) (c4 hi hb) (wgrow_one s _ rfl hs) ?_
  rw [wpost1 Y M D ho mi S W J n iy iw su mo f _ _ s (at1 f (i : Int)) 1 rfl, e1, e2]
  exact hq
def wdSt (s : ByteArray) (i : Nat) (c : UInt8) : St := if s.size = 0 then wd0 Y M D ho mi S W J n iy iw su mo f i c.toNat else wd1 Y M D ho mi S W J n iy iw su mo f i c.toNat s
theorem wc_round {s : ByteArray} {i : Nat} {c : UInt8} (hb : f.size ≤ 1000000000) (hi : i + 1 < f.size) (hx : f[i]? = some 37) (hc : f[i + 1]? = some c) {s2 : ByteArray} {j : Nat} (hj : j ≤ 1000000001) {Q : AExit → St → Prop}
  (hd : ∀ Q1 : AExit → St → Prop, Q1 .normal (wcSt Y M D ho mi S W J n iy iw su mo f s2 j) → Tr (withB laW lpV) 110 66 wcR (wdSt Y M D ho mi S W J n iy iw su mo (f := f) s i c) Q1)
  (hq : Q .normal (wcSt Y M D ho mi S W J n iy iw su mo f s2 (j + 1))) : Tr (withB laW lpV) 110 66 wcB (wcSt Y M D ho mi S W J n iy iw su mo f s i) Q := by
 have e2 : wrNx (i : Int) = ((i + 1 : Nat) : Int) := wrNx_eq i (by omega)
 have e4 : IntKind.i64.wrap ((i : Int) + 1) = ((i + 1 : Nat) : Int) := e2
 have e5 : atI f (wrNx (i : Int)) = c := by rw [e2]; exact atI_eq hc
 have e6 : wrNx (j : Int) = ((j + 1 : Nat) : Int) := wrNx_eq j (by omega)
 have c5 : ((decide (0 ≤ (IntKind.i64.wrap ((i : Int) + 1)))) && (Option.isSome (GetElem?.getElem? f (Int.toNat (IntKind.i64.wrap ((i : Int) + 1)))))) = true := by rw [e4]; exact c2 hc
 have hn : TrL (withB laW lpV) 110 66 [wcN] (wcSt Y M D ho mi S W J n iy iw su mo f s2 j) Q := by
  show Tr (withB laW lpV) 110 66 wcN _ _
  unfold wcSt at hq ⊢
  by_cases h0 : s2.size = 0
  ·rw [if_pos h0] at hq ⊢
   refine wc0_next Y M D ho mi S W J n iy iw su mo f j ?_
   rw [e6]
   exact hq
  ·rw [if_neg h0] at hq ⊢
   refine wc1_next Y M D ho mi S W J n iy iw su mo f j s2 ?_
   rw [e6]
   exact hq
 refine Tr.of_spine wcB ?_
 rw [wc_spine, wc_rest]
 have inner : Tr (withB laW lpV) 110 66 (.block 1 wcInC) (wcSt Y M D ho mi S W J n iy iw su mo f s i) (fun e s1 => match e with | .normal => TrL (withB laW lpV) 110 66 [wcN] s1 Q | e => Q e s1) := by
  refine Tr.block (Q1 := fun e s1 => e = .normal ∧ s1 = wcSt Y M D ho mi S W J n iy iw su mo f s2 j) ?_ ?_ ?_
  ·rw [wc_inner]
   refine Tr.of4' ?_
   show TrL (withB laW lpV) 110 66 ([wcA, wcA2, wcA3] ++ wcR :: []) _ _
   rw [← wc_take3]
   have tail : TrL (withB laW lpV) 110 66 (wcR :: []) (wdSt Y M D ho mi S W J n iy iw su mo (f := f) s i c) (fun e s1 => e = .normal ∧ s1 = wcSt Y M D ho mi S W J n iy iw su mo f s2 j) := by
    refine Tr.mono (hd (fun e s1 => e = .normal ∧ s1 = wcSt Y M D ho mi S W J n iy iw su mo f s2 j) ⟨rfl, rfl⟩) fun e s1 q => ?_
    cases e with
    | normal => exact q
    | exit k => exact q
    | ret => exact q
   unfold wdSt at tail
   unfold wcSt
   by_cases h0 : s.size = 0
   ·rw [if_pos h0] at tail ⊢
    refine wc0_byte Y M D ho mi S W J n iy iw su mo f i (c2 hx) (c3n hx) (c4n hi hb) c5 ?_
    rw [e5]
    exact tail
   ·rw [if_neg h0] at tail ⊢
    refine wc1_byte Y M D ho mi S W J n iy iw su mo f i s (c2 hx) (c3n hx) (c4n hi hb) c5 ?_
    rw [e5]
    exact tail
  ·rintro s1 ⟨h, _⟩; cases h
  ·rintro e s1 ⟨rfl, rfl⟩ _
   exact hn
 unfold wcSt at inner ⊢
 by_cases h0 : s.size = 0
 ·rw [if_pos h0] at inner ⊢
  exact wc0_head Y M D ho mi S W J n iy iw su mo f i (c1 (by omega)) inner
 ·rw [if_neg h0] at inner ⊢
  exact wc1_head Y M D ho mi S W J n iy iw su mo f i s (c1 (by omega)) inner
end
end Go.Proofs.YthopphfehgdocaaGreatDoor
namespace Go.Proofs.YthopphfehgdocaaGreatDoor
open Go Go.RowKit Go.Ev Go.Proofs Go.Shelf
theorem miss_all : ((List.range 256).all fun c => wcInF (c : Int) || missAll kdB (.int .u8 (c : Int)) wmEs) = true := by kernel_rfl
theorem miss_ok (c : UInt8) (h : wcInF c.toNat = false) : missAll kdB (.int .u8 (c.toNat : Int)) wmEs = true := by
 have := List.all_eq_true.1 miss_all c.toNat (List.mem_range.2 (by have := c.toNat_lt; omega))
 rw [h] at this
 simpa using this
theorem in37 : wcInF ((37 : UInt8).toNat : Int) = true := by kernel_rfl
section
variable (Y M D ho mi : Int) (S : Nat) (W J n iy iw su mo : Int) {f : ByteArray}
theorem wc_key {s : ByteArray} {i : Nat} {c : UInt8} (hi : i ≤ 1000000000) (hin : wcInF c.toNat = true) (hok : wcOkF Y M D ho mi S W J n iy iw su mo c.toNat = true) (h0 : 0 < (wcTF Y M D ho mi S W J n iy iw su mo c.toNat).size) (hs : s.size + (wcTF Y M D ho mi S W J n iy iw su mo c.toNat).size ≤ 1000000000) (Q1 : AExit → St → Prop)
  (hq : Q1 .normal (wcSt Y M D ho mi S W J n iy iw su mo f (s ++ wcTF Y M D ho mi S W J n iy iw su mo c.toNat) (i + 1))) : Tr (withB laW lpV) 110 66 wcR (wdSt Y M D ho mi S W J n iy iw su mo (f := f) s i c) Q1 := by
 have e2 : wrNx (i : Int) = ((i + 1 : Nat) : Int) := wrNx_eq i (by omega)
 have hne : (s ++ wcTF Y M D ho mi S W J n iy iw su mo c.toNat).size ≠ 0 := by rw [ByteArray.size_append]; omega
 unfold wcSt at hq
 rw [if_neg hne] at hq
 unfold wdSt
 by_cases hz : s.size = 0
 ·rw [if_pos hz]
  refine wc0_dir Y M D ho mi S W J n iy iw su mo f i c.toNat hin hok (new_text _ h0 (by omega)) fun b => ?_
  rw [wpost0 Y M D ho mi S W J n iy iw su mo f _ _ _ _ rfl, e2]
  have := ba_nil hz
  subst this
  rw [ByteArray.empty_append] at hq
  exact hq
 ·rw [if_neg hz]
  refine wc1_dir Y M D ho mi S W J n iy iw su mo f i c.toNat s hin hok (wgrow_text s _ h0 hs) fun b => ?_
  rw [wpost1 Y M D ho mi S W J n iy iw su mo f _ _ s _ _ rfl, e2]
  exact hq
theorem wc_alone {s : ByteArray} {i : Nat} {c : UInt8} (hin : wcInF c.toNat = false) (hl : (longerF c.toNat).size = 0) (hs : s.size + 1 ≤ 1000000000) (Q1 : AExit → St → Prop)
  (hq : Q1 .normal (wcSt Y M D ho mi S W J n iy iw su mo f (s ++ ⟨#[37]⟩) i)) : Tr (withB laW lpV) 110 66 wcR (wdSt Y M D ho mi S W J n iy iw su mo (f := f) s i c) Q1 := by
 have hne : (s ++ ⟨#[37]⟩ : ByteArray).size ≠ 0 := by rw [ByteArray.size_append]; show s.size + 1 ≠ 0; omega
 have hl2 : ((!((ByteArray.toList (longerF c.toNat)) == (ByteArray.toList (ByteArray.mk #[])))) == false) = true := by
  rw [ba_nil hl, ba_toList, ba_toList]
  rfl
 unfold wcSt at hq
 rw [if_neg hne] at hq
 unfold wdSt
 by_cases hz : s.size = 0
 ·rw [if_pos hz]
  refine wc0_lone Y M D ho mi S W J n iy iw su mo f i c.toNat (miss_ok c hin) hl2 ?_
  rw [wpost0 Y M D ho mi S W J n iy iw su mo f _ _ _ 1 rfl]
  have := ba_nil hz
  subst this
  rw [ByteArray.empty_append] at hq
  exact hq
 ·rw [if_neg hz]
  refine wc1_lone Y M D ho mi S W J n iy iw su mo f i c.toNat s (miss_ok c hin) hl2 (wgrow_one s _ rfl hs) ?_
  rw [wpost1 Y M D ho mi S W J n iy iw su mo f _ _ s _ 1 rfl]
  exact hq
def dirWF (c : UInt8) : ByteArray := if wcInF c.toNat = true then wcTF Y M D ho mi S W J n iy iw su mo c.toNat else ⟨#[37, c]⟩
def dirWK (c : UInt8) : Bool := if wcInF c.toNat = true then wcOkF Y M D ho mi S W J n iy iw su mo c.toNat && decide (0 < (wcTF Y M D ho mi S W J n iy iw su mo c.toNat).size) else decide ((longerF c.toNat).size = 0)
end
end Go.Proofs.YthopphfehgdocaaGreatDoor
