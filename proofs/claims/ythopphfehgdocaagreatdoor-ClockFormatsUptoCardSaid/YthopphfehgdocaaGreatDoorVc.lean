import Derived.Test.YthopphfehgdocaaGreatDoorVb
set_option linter.unusedSimpArgs false
set_option linter.unusedVariables false
namespace Go.Proofs.YthopphfehgdocaaGreatDoor
open Go Go.RowKit Go.Ev Go.Proofs Go.Shelf
section
variable (Y M D ho mi : Int) (S : Nat) (W J n iy iw su mo : Int) (f : ByteArray)
def vcSt (o : Bool) (s : ByteArray) (i : Nat) : St := if o = false then vc1 Y M D ho mi S W J n iy iw su mo f i s else if s.size = 0 then vc0 Y M D ho mi S W J n iy iw su mo f i else vc2 Y M D ho mi S W J n iy iw su mo f i s
def veSt (o : Bool) (s : ByteArray) (i : Nat) (c : UInt8) : St := if o = false then ve1 Y M D ho mi S W J n iy iw su mo f i c.toNat s else if s.size = 0 then ve0 Y M D ho mi S W J n iy iw su mo f i c.toNat else ve2 Y M D ho mi S W J n iy iw su mo f i c.toNat s
theorem vpost0 (b : Nat) (i : Int) (X : ByteArray) (k : Nat) (hk : k = X.size) : canon 7 127 (vcT f i) (vcB 126 (Nat.add 0 k) :: (126, b, mkCells 126 5 1 false (bytesV X)) :: vcBx Y M D ho mi S W J n iy iw su mo) = vc1 Y M D ho mi S W J n iy iw su mo f i X := by
 have : Nat.add 0 k = X.size := by rw [hk]; exact Nat.zero_add _
 rw [this]
 rfl
theorem vpost1 (b : Nat) (i : Int) (s X : ByteArray) (k : Nat) (hk : k = X.size) : canon 7 127 (vcT f i) (vcB 126 (Nat.add s.size k) :: (126, b, mkCells 126 5 1 false (bytesV (s ++ X))) :: vcBx Y M D ho mi S W J n iy iw su mo) = vc1 Y M D ho mi S W J n iy iw su mo f i (s ++ X) := by
 have : Nat.add s.size k = (s ++ X).size := by rw [hk, ByteArray.size_append]; rfl
 rw [this]
 rfl
theorem vcHp_old (s : ByteArray) : loadOld (vcHp s) 126 0 (Nat.mul s.size 1) = some (bytesV s) :=
 loadOld_row (ob := mkCells 126 5 1 false (bytesV s)) (by kernel_rfl) rfl
theorem vgrow_text (s X : ByteArray) (h0 : 0 < X.size) (h1 : s.size + X.size ≤ 1000000000) : growOk X.size 1 1 s.size s.size 0 (bytesV s).length (some (strL X)) (strL X) (loadOld (vcHp s) 126 0 (Nat.mul s.size 1)) = true :=
 growOk_ok rfl (strL_len X) (strL_one X) (by omega) (by omega) (bytesV_len s) (vcHp_old s)
theorem vgrow_one (s : ByteArray) (v : Value) (hv : oneCell v = true) (h1 : s.size + 1 ≤ 1000000000) : growOk 1 1 1 s.size s.size 0 (bytesV s).length (some [v]) [v] (loadOld (vcHp s) 126 0 (Nat.mul s.size 1)) = true :=
 growOk_ok rfl rfl (by simp [hv]) (by omega) (by omega) (bytesV_len s) (vcHp_old s)
end
section
variable (Y M D ho mi : Int) (S : Nat) (W J n iy iw su mo : Int) {f : ByteArray}
theorem vc_plain {o : Bool} {s : ByteArray} {i : Nat} {x : UInt8} (hb : f.size ≤ 1000000000) (hi : i < f.size) (hx : f[i]? = some x) (h37 : x ≠ 37) (hs : s.size + 1 ≤ 1000000000) {Q : AExit → St → Prop} (hq : Q .normal (vcSt Y M D ho mi S W J n iy iw su mo f false (s ++ ⟨#[x]⟩) (i + 1))) : Tr (withB laW lpV) 125 66 wcB (vcSt Y M D ho mi S W J n iy iw su mo f o s i) Q := by
 have e1 : at1 f (i : Int) = ⟨#[x]⟩ := at1_eq hx
 have e2 : wrNx (i : Int) = ((i + 1 : Nat) : Int) := wrNx_eq i (by omega)
 unfold vcSt at hq
 rw [if_pos rfl] at hq
 unfold vcSt
 cases o with
 | false =>
  rw [if_pos rfl]
  refine vc1_plain Y M D ho mi S W J n iy iw su mo f i s (c1 hi) (c2 hx) (c3 hx h37) (vgrow_one s _ rfl hs) ?_
  rw [vpost1 Y M D ho mi S W J n iy iw su mo f _ _ s (at1 f (i : Int)) 1 rfl, e1, e2]
  exact hq
 | true =>
  rw [if_neg (by simp)]
  by_cases h0 : s.size = 0
  ·rw [if_pos h0]
   refine vc0_plain Y M D ho mi S W J n iy iw su mo f i (c1 hi) (c2 hx) (c3 hx h37) (new_one _) ?_
   rw [vpost0 Y M D ho mi S W J n iy iw su mo f _ _ (at1 f (i : Int)) 1 rfl, e1, e2]
   have := ba_nil h0
   subst this
   rw [ByteArray.empty_append] at hq
   exact hq
  ·rw [if_neg h0]
   refine vc2_plain Y M D ho mi S W J n iy iw su mo f i s (c1 hi) (c2 hx) (c3 hx h37) (wgrow_one s _ rfl hs) ?_
   rw [vpost1 Y M D ho mi S W J n iy iw su mo f _ _ s (at1 f (i : Int)) 1 rfl, e1, e2]
   exact hq
theorem vc_last {o : Bool} {s : ByteArray} {i : Nat} (hb : f.size ≤ 1000000000) (hi : i + 1 = f.size) (hx : f[i]? = some 37) (hs : s.size + 1 ≤ 1000000000) {Q : AExit → St → Prop} (hq : Q .normal (vcSt Y M D ho mi S W J n iy iw su mo f false (s ++ ⟨#[37]⟩) (i + 1))) : Tr (withB laW lpV) 125 66 wcB (vcSt Y M D ho mi S W J n iy iw su mo f o s i) Q := by
 have e1 : at1 f (i : Int) = ⟨#[37]⟩ := at1_eq hx
 have e2 : wrNx (i : Int) = ((i + 1 : Nat) : Int) := wrNx_eq i (by omega)
 unfold vcSt at hq
 rw [if_pos rfl] at hq
 unfold vcSt
 cases o with
 | false =>
  rw [if_pos rfl]
  refine vc1_last Y M D ho mi S W J n iy iw su mo f i s (c1 (by omega)) (c2 hx) (c3n hx) (c4 hi hb) (vgrow_one s _ rfl hs) ?_
  rw [vpost1 Y M D ho mi S W J n iy iw su mo f _ _ s (at1 f (i : Int)) 1 rfl, e1, e2]
  exact hq
 | true =>
  rw [if_neg (by simp)]
  by_cases h0 : s.size = 0
  ·rw [if_pos h0]
   refine vc0_last Y M D ho mi S W J n iy iw su mo f i (c1 (by omega)) (c2 hx) (c3n hx) (c4 hi hb) (new_one _) ?_
   rw [vpost0 Y M D ho mi S W J n iy iw su mo f _ _ (at1 f (i : Int)) 1 rfl, e1, e2]
   have := ba_nil h0
   subst this
   rw [ByteArray.empty_append] at hq
   exact hq
  ·rw [if_neg h0]
   refine vc2_last Y M D ho mi S W J n iy iw su mo f i s (c1 (by omega)) (c2 hx) (c3n hx) (c4 hi hb) (wgrow_one s _ rfl hs) ?_
   rw [vpost1 Y M D ho mi S W J n iy iw su mo f _ _ s (at1 f (i : Int)) 1 rfl, e1, e2]
   exact hq
theorem vc_key {o : Bool} {s : ByteArray} {i : Nat} {c : UInt8} (hi : i ≤ 1000000000) (hin : wcInF c.toNat = true) (hok : wcOkF Y M D ho mi S W J n iy iw su mo c.toNat = true) (h0' : 0 < (wcTF Y M D ho mi S W J n iy iw su mo c.toNat).size) (hs : s.size + (wcTF Y M D ho mi S W J n iy iw su mo c.toNat).size ≤ 1000000000) (Q : AExit → St → Prop)
  (hq : Q .normal (vcSt Y M D ho mi S W J n iy iw su mo f false (s ++ wcTF Y M D ho mi S W J n iy iw su mo c.toNat) (i + 1))) : Tr (withB laW lpV) 125 66 wcR (veSt Y M D ho mi S W J n iy iw su mo f o s i c) Q := by
 have e2 : wrNx (i : Int) = ((i + 1 : Nat) : Int) := wrNx_eq i (by omega)
 unfold vcSt at hq
 rw [if_pos rfl] at hq
 unfold veSt
 cases o with
 | false =>
  rw [if_pos rfl]
  refine vc1_dir Y M D ho mi S W J n iy iw su mo f i c.toNat s hin hok (vgrow_text s _ h0' hs) fun b => ?_
  rw [vpost1 Y M D ho mi S W J n iy iw su mo f _ _ s _ _ rfl, e2]
  exact hq
 | true =>
  rw [if_neg (by simp)]
  by_cases h0 : s.size = 0
  ·rw [if_pos h0]
   refine vc0_dir Y M D ho mi S W J n iy iw su mo f i c.toNat hin hok (new_text _ h0' (by omega)) fun b => ?_
   rw [vpost0 Y M D ho mi S W J n iy iw su mo f _ _ _ _ rfl, e2]
   have := ba_nil h0
   subst this
   rw [ByteArray.empty_append] at hq
   exact hq
  ·rw [if_neg h0]
   refine vc2_dir Y M D ho mi S W J n iy iw su mo f i c.toNat s hin hok (wgrow_text s _ h0' hs) fun b => ?_
   rw [vpost1 Y M D ho mi S W J n iy iw su mo f _ _ s _ _ rfl, e2]
   exact hq
theorem vc_alone {o : Bool} {s : ByteArray} {i : Nat} {c : UInt8} (hin : wcInF c.toNat = false) (hl : (longerF c.toNat).size = 0) (hs : s.size + 1 ≤ 1000000000) (Q : AExit → St → Prop)
  (hq : Q .normal (vcSt Y M D ho mi S W J n iy iw su mo f false (s ++ ⟨#[37]⟩) i)) : Tr (withB laW lpV) 125 66 wcR (veSt Y M D ho mi S W J n iy iw su mo f o s i c) Q := by
 have hl2 : ((!((ByteArray.toList (longerF c.toNat)) == (ByteArray.toList (ByteArray.mk #[])))) == false) = true := by
  rw [ba_nil hl, ba_toList, ba_toList]
  rfl
 unfold vcSt at hq
 rw [if_pos rfl] at hq
 unfold veSt
 cases o with
 | false =>
  rw [if_pos rfl]
  refine vc1_lone Y M D ho mi S W J n iy iw su mo f i c.toNat s (miss_ok c hin) hl2 (vgrow_one s _ rfl hs) ?_
  rw [vpost1 Y M D ho mi S W J n iy iw su mo f _ _ s _ 1 rfl]
  exact hq
 | true =>
  rw [if_neg (by simp)]
  by_cases h0 : s.size = 0
  ·rw [if_pos h0]
   refine vc0_lone Y M D ho mi S W J n iy iw su mo f i c.toNat (miss_ok c hin) hl2 ?_
   rw [vpost0 Y M D ho mi S W J n iy iw su mo f _ _ _ 1 rfl]
   have := ba_nil h0
   subst this
   rw [ByteArray.empty_append] at hq
   exact hq
  ·rw [if_neg h0]
   refine vc2_lone Y M D ho mi S W J n iy iw su mo f i c.toNat s (miss_ok c hin) hl2 (wgrow_one s _ rfl hs) ?_
   rw [vpost1 Y M D ho mi S W J n iy iw su mo f _ _ s _ 1 rfl]
   exact hq
end
section
variable (Y M D ho mi : Int) (S : Nat) (W J n iy iw su mo : Int) {f : ByteArray}
theorem vc_round {o : Bool} {s : ByteArray} {i : Nat} {c : UInt8} (hb : f.size ≤ 1000000000) (hi : i + 1 < f.size) (hx : f[i]? = some 37) (hc : f[i + 1]? = some c) {s2 : ByteArray} {j : Nat} (hj : j ≤ 1000000001) {Q : AExit → St → Prop}
  (hd : ∀ Q1 : AExit → St → Prop, Q1 .normal (vcSt Y M D ho mi S W J n iy iw su mo f false s2 j) → Tr (withB laW lpV) 125 66 wcR (veSt Y M D ho mi S W J n iy iw su mo f o s i c) Q1)
  (hq : Q .normal (vcSt Y M D ho mi S W J n iy iw su mo f false s2 (j + 1))) : Tr (withB laW lpV) 125 66 wcB (vcSt Y M D ho mi S W J n iy iw su mo f o s i) Q := by
 have e2 : wrNx (i : Int) = ((i + 1 : Nat) : Int) := wrNx_eq i (by omega)
 have e4 : IntKind.i64.wrap ((i : Int) + 1) = ((i + 1 : Nat) : Int) := e2
 have e5 : atI f (wrNx (i : Int)) = c := by rw [e2]; exact atI_eq hc
 have e6 : wrNx (j : Int) = ((j + 1 : Nat) : Int) := wrNx_eq j (by omega)
 have c5 : ((decide (0 ≤ (IntKind.i64.wrap ((i : Int) + 1)))) && (Option.isSome (GetElem?.getElem? f (Int.toNat (IntKind.i64.wrap ((i : Int) + 1)))))) = true := by rw [e4]; exact c2 hc
 have hn : TrL (withB laW lpV) 125 66 [wcN] (vcSt Y M D ho mi S W J n iy iw su mo f false s2 j) Q := by
  show Tr (withB laW lpV) 125 66 wcN _ _
  unfold vcSt at hq ⊢
  rw [if_pos rfl] at hq ⊢
  refine vc1_next Y M D ho mi S W J n iy iw su mo f j s2 ?_
  show Q .normal (vc1 Y M D ho mi S W J n iy iw su mo f (wrNx (j : Int)) s2)
  rw [e6]
  exact hq
 refine Tr.of_spine wcB ?_
 rw [wc_spine, wc_rest]
 have inner : Tr (withB laW lpV) 125 66 (.block 1 wcInC) (vcSt Y M D ho mi S W J n iy iw su mo f o s i) (fun e s1 => match e with | .normal => TrL (withB laW lpV) 125 66 [wcN] s1 Q | e => Q e s1) := by
  refine Tr.block (Q1 := fun e s1 => e = .normal ∧ s1 = vcSt Y M D ho mi S W J n iy iw su mo f false s2 j) ?_ ?_ ?_
  ·rw [wc_inner]
   refine Tr.of4' ?_
   show TrL (withB laW lpV) 125 66 ([wcA, wcA2, wcA3] ++ wcR :: []) _ _
   rw [← wc_take3]
   have tail : TrL (withB laW lpV) 125 66 (wcR :: []) (veSt Y M D ho mi S W J n iy iw su mo f o s i c) (fun e s1 => e = .normal ∧ s1 = vcSt Y M D ho mi S W J n iy iw su mo f false s2 j) := by
    refine Tr.mono (hd (fun e s1 => e = .normal ∧ s1 = vcSt Y M D ho mi S W J n iy iw su mo f false s2 j) ⟨rfl, rfl⟩) fun e s1 q => ?_
    cases e with
    | normal => exact q
    | exit k => exact q
    | ret => exact q
   unfold veSt at tail
   unfold vcSt
   cases o with
   | false =>
    rw [if_pos rfl] at tail ⊢
    refine vc1_byte Y M D ho mi S W J n iy iw su mo f i s (c2 hx) (c3n hx) (c4n hi hb) c5 ?_
    rw [e5]
    exact tail
   | true =>
    rw [if_neg (by simp)] at tail ⊢
    by_cases h0 : s.size = 0
    ·rw [if_pos h0] at tail ⊢
     refine vc0_byte Y M D ho mi S W J n iy iw su mo f i (c2 hx) (c3n hx) (c4n hi hb) c5 ?_
     rw [e5]
     exact tail
    ·rw [if_neg h0] at tail ⊢
     refine vc2_byte Y M D ho mi S W J n iy iw su mo f i s (c2 hx) (c3n hx) (c4n hi hb) c5 ?_
     rw [e5]
     exact tail
  ·rintro s1 ⟨h, _⟩; cases h
  ·rintro e s1 ⟨rfl, rfl⟩ _
   exact hn
 unfold vcSt at inner ⊢
 cases o with
 | false =>
  rw [if_pos rfl] at inner ⊢
  exact vc1_head Y M D ho mi S W J n iy iw su mo f i s (c1 (by omega)) inner
 | true =>
  rw [if_neg (by simp)] at inner ⊢
  by_cases h0 : s.size = 0
  ·rw [if_pos h0] at inner ⊢
   exact vc0_head Y M D ho mi S W J n iy iw su mo f i (c1 (by omega)) inner
  ·rw [if_neg h0] at inner ⊢
   exact vc2_head Y M D ho mi S W J n iy iw su mo f i s (c1 (by omega)) inner
def vcI (tot : ByteArray) (m : Nat) (st : St) : Prop := ∃ (i : Nat) (o : Bool) (s : ByteArray), st = vcSt Y M D ho mi S W J n iy iw su mo f o s i ∧ i ≤ f.size ∧ s ++ wrL (dirWF Y M D ho mi S W J n iy iw su mo) (f.data.toList.drop i) = tot ∧ wrK (dirWK Y M D ho mi S W J n iy iw su mo) (f.data.toList.drop i) = true ∧ m = f.size - i
set_option maxHeartbeats 2000000 in
theorem vc_loop (s0 : ByteArray) (tot : ByteArray) (hb : f.size ≤ 1000000000) (ht : tot.size ≤ 1000000000) (hw : s0 ++ wrL (dirWF Y M D ho mi S W J n iy iw su mo) f.data.toList = tot) (hk : wrK (dirWK Y M D ho mi S W J n iy iw su mo) f.data.toList = true) :
  Tr (withB laW lpV) 125 66 (.loop wcB) (vcSt Y M D ho mi S W J n iy iw su mo f true s0 0) fun e s => e = .exit 0 ∧ ∃ o, s = vcSt Y M D ho mi S W J n iy iw su mo f o tot f.size := by
 refine Tr.loop (vcI (f := f) Y M D ho mi S W J n iy iw su mo tot) ?_ (m := f.size - 0) ⟨0, true, s0, rfl, by omega, hw, hk, rfl⟩
 rintro m st ⟨i, o, s, rfl, hi, hs, hk, rfl⟩
 cases hd : f.data.toList.drop i with
 | nil =>
  have hl : f.size ≤ i := by
   have := congrArg List.length hd
   simp only [List.length_drop, List.length_nil, len_list] at this
   omega
  have hie : i = f.size := by omega
  subst hie
  rw [hd] at hs
  have hs' : s = tot := by rw [← hs]; exact ByteArray.append_empty.symm
  subst hs'
  cases o with
  | false => exact vc1_out Y M D ho mi S W J n iy iw su mo f _ s (c1n hl) ⟨rfl, false, rfl⟩
  | true =>
   by_cases h0 : s.size = 0
   ·have e : vcSt Y M D ho mi S W J n iy iw su mo f true s f.size = vc0 Y M D ho mi S W J n iy iw su mo f f.size := by unfold vcSt; rw [if_neg (by simp), if_pos h0]
    rw [e]
    exact vc0_out Y M D ho mi S W J n iy iw su mo f _ (c1n hl) ⟨rfl, true, e.symm⟩
   ·have e : vcSt Y M D ho mi S W J n iy iw su mo f true s f.size = vc2 Y M D ho mi S W J n iy iw su mo f f.size s := by unfold vcSt; rw [if_neg (by simp), if_neg h0]
    rw [e]
    exact vc2_out Y M D ho mi S W J n iy iw su mo f _ s (c1n hl) ⟨rfl, true, e.symm⟩
 | cons x r =>
  obtain ⟨hx, hr, hlt⟩ := drop_cons hd
  rw [len_list] at hlt
  rw [← at_list] at hx
  rw [hd] at hs hk
  have short : i + 1 = f.size → r = [] := by
   intro h
   have := congrArg List.length hr
   simp only [List.length_drop, len_list] at this
   exact List.eq_nil_of_length_eq_zero (by omega)
  have plain : ∀ (y : UInt8) (q : List UInt8), y ≠ 37 ∨ q = [] → wrL (dirWF Y M D ho mi S W J n iy iw su mo) (y :: q) = ⟨#[y]⟩ ++ wrL (dirWF Y M D ho mi S W J n iy iw su mo) q := by
   intro y q h
   cases q with
   | nil => exact ByteArray.append_empty.symm
   | cons c r2 =>
    have h37 : y ≠ 37 := by
     rcases h with h | h
     ·exact h
     ·cases h
    simp only [wrL, if_neg h37]
  have plainK : ∀ (y : UInt8) (q : List UInt8), y ≠ 37 ∨ q = [] → wrK (dirWK Y M D ho mi S W J n iy iw su mo) (y :: q) = wrK (dirWK Y M D ho mi S W J n iy iw su mo) q := by
   intro y q h
   cases q with
   | nil => rfl
   | cons c r2 =>
    have h37 : y ≠ 37 := by
     rcases h with h | h
     ·exact h
     ·cases h
    simp only [wrK, if_neg h37]
  have next : x ≠ 37 ∨ r = [] → ∃ m', m' < f.size - i ∧ vcI (f := f) Y M D ho mi S W J n iy iw su mo tot m' (vcSt Y M D ho mi S W J n iy iw su mo f false (s ++ ⟨#[x]⟩) (i + 1)) := by
   intro h
   refine ⟨f.size - (i + 1), by omega, i + 1, false, s ++ ⟨#[x]⟩, rfl, by omega, ?_, by rw [hr, ← plainK x r h]; exact hk, rfl⟩
   rw [hr, ByteArray.append_assoc, ← plain x r h]
   exact hs
  have sz : x ≠ 37 ∨ r = [] → s.size + 1 ≤ 1000000000 := by
   intro h
   rw [plain x r h] at hs
   have := congrArg ByteArray.size hs
   rw [ByteArray.size_append, ByteArray.size_append] at this
   have e : (⟨#[x]⟩ : ByteArray).size = 1 := rfl
   omega
  by_cases h37 : x = 37
  ·subst h37
   by_cases hl : i + 1 = f.size
   ·exact vc_last Y M D ho mi S W J n iy iw su mo hb hl hx (sz (.inr (short hl))) (next (.inr (short hl)))
   ·cases r with
    | nil =>
     have := congrArg List.length hr
     simp only [List.length_drop, List.length_nil, len_list] at this
     omega
    | cons c r2 =>
     obtain ⟨hc, hr2, hlt2⟩ := drop_cons hr
     rw [len_list] at hlt2
     rw [← at_list] at hc
     have hw2 : wrL (dirWF Y M D ho mi S W J n iy iw su mo) (37 :: c :: r2) = dirWF Y M D ho mi S W J n iy iw su mo c ++ wrL (dirWF Y M D ho mi S W J n iy iw su mo) r2 := by simp only [wrL, if_true]
     have hk2 : dirWK Y M D ho mi S W J n iy iw su mo c = true ∧ wrK (dirWK Y M D ho mi S W J n iy iw su mo) r2 = true := by simpa only [wrK, if_true, Bool.and_eq_true] using hk
     rw [hw2] at hs
     have hsz : s.size + (dirWF Y M D ho mi S W J n iy iw su mo c).size ≤ 1000000000 := by
      have := congrArg ByteArray.size hs
      rw [ByteArray.size_append, ByteArray.size_append] at this
      omega
     obtain ⟨k1, k2⟩ := hk2
     unfold dirWF at hsz hs
     unfold dirWK at k1
     cases hin : wcInF c.toNat with
     | true =>
      rw [if_pos hin] at hsz k1
      rw [if_pos hin] at hs
      simp only [Bool.and_eq_true, decide_eq_true_eq] at k1
      refine vc_round Y M D ho mi S W J n iy iw su mo hb hlt2 hx hc (s2 := s ++ wcTF Y M D ho mi S W J n iy iw su mo c.toNat) (j := i + 1) (by omega) (fun Q1 h1 => vc_key Y M D ho mi S W J n iy iw su mo (by omega) hin k1.1 k1.2 hsz Q1 h1) ⟨f.size - (i + 2), by omega, i + 2, false, _, rfl, by omega, ?_, by rw [hr2]; exact k2, rfl⟩
      rw [hr2, ByteArray.append_assoc]
      exact hs
     | false =>
      have hn : ¬ (wcInF c.toNat = true) := by rw [hin]; simp
      have hc37 : c ≠ 37 := by
       intro h
       subst h
       rw [in37] at hin
       cases hin
      rw [if_neg hn] at hsz k1
      rw [if_neg hn] at hs
      simp only [decide_eq_true_eq] at k1
      have e2 : (⟨#[37, c]⟩ : ByteArray) = ⟨#[37]⟩ ++ ⟨#[c]⟩ := by
       apply ByteArray.ext
       simp
      have e3 : (⟨#[37, c]⟩ : ByteArray).size = 2 := rfl
      refine vc_round Y M D ho mi S W J n iy iw su mo hb hlt2 hx hc (s2 := s ++ ⟨#[37]⟩) (j := i) (by omega) (fun Q1 h1 => vc_alone Y M D ho mi S W J n iy iw su mo hin k1 (by omega) Q1 h1) ⟨f.size - (i + 1), by omega, i + 1, false, _, rfl, by omega, ?_, by rw [hr, plainK c r2 (.inl hc37)]; exact k2, rfl⟩
      rw [hr, plain c r2 (.inl hc37), ByteArray.append_assoc]
      rw [e2, ByteArray.append_assoc] at hs
      exact hs
  ·exact vc_plain Y M D ho mi S W J n iy iw su mo hb hlt hx h37 (sz (.inl h37)) (next (.inl h37))
end
end Go.Proofs.YthopphfehgdocaaGreatDoor
