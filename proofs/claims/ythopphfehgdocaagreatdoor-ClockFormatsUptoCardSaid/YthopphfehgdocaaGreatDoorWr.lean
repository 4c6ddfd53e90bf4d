import Derived.Test.YthopphfehgdocaaGreatDoorGen9
import Derived.Test.YthopphfehgdocaaGreatDoorRefR
import Derived.Test.YthopphfehgdocaaGreatDoorDec
set_option linter.unusedSimpArgs false
set_option linter.unusedVariables false
namespace Go.Ev
open Go.RowKit
def bytesV (s : ByteArray) : List Value := s.data.toList.map fun b => Value.int .u8 b.toNat
theorem bytesV_len (s : ByteArray) : (bytesV s).length = s.size := by
 show (s.data.toList.map _).length = s.data.size
 simp
theorem bytesV_closed (s : ByteArray) : ∀ v ∈ bytesV s, closed 60 v = true := by
 intro v h
 simp only [bytesV, List.mem_map] at h
 obtain ⟨b, _, rfl⟩ := h
 rfl
theorem bytesV_one (s : ByteArray) : (bytesV s).all oneCell = true := by
 rw [List.all_eq_true]
 intro v h
 simp only [bytesV, List.mem_map] at h
 obtain ⟨b, _, rfl⟩ := h
 rfl
theorem bytesV_append (a b : ByteArray) : bytesV (a ++ b) = bytesV a ++ bytesV b := by simp [bytesV]
def strL (s : ByteArray) : List Value := ((s.extract 0 s.size).data.map fun b => Value.int .u8 b.toNat).toList
theorem strL_eq (s : ByteArray) : strL s = bytesV s := by
 unfold strL bytesV
 have : s.extract 0 s.size = s := by
  apply ByteArray.ext
  simp
 rw [this, Array.toList_map]
theorem readN_list : ∀ (vs pre : List Value), readN (T.setList .nil 0 (pre ++ vs)) pre.length vs.length = some vs
 | [], pre => rfl
 | v :: vs, pre => by
  have ih := readN_list vs (pre ++ [v])
  simp only [List.append_assoc, List.singleton_append, List.length_append, List.length_singleton] at ih
  simp only [List.length_cons, readN]
  rw [T.get_setList, if_pos (by simp)]
  simp only [Nat.sub_zero]
  rw [List.getElem?_append_right (Nat.le_refl _)]
  simp only [Nat.sub_self, List.getElem?_cons_zero]
  have e : Nat.add pre.length 1 = pre.length + 1 := rfl
  rw [e, ih]
theorem readN_all (vs : List Value) : readN (T.setList .nil 0 vs) 0 vs.length = some vs := readN_list vs []
theorem isS_some {α : Type} {o : Option α} {a : α} (h : o = some a) : isS o = true := by rw [h]; rfl
theorem newOk_ok {n sLen sCap : Nat} {new : List Value} {src : Option (List Value)} (hs : src = some new) (h1 : new.length = n) (h2 : new.all oneCell = true) (h3 : sCap < sLen + n) (h4 : sLen + n ≤ 1000000000) : newOk n 1 1 sLen sCap src new = true := by
 unfold newOk
 simp only [Bool.and_eq_true, Bool.not_eq_true']
 refine ⟨isS_some hs, ⟨?_, h2⟩, ?_, ⟨?_, rfl⟩, ?_⟩
 ·have hm : Nat.mul n 1 = n := Nat.mul_one n
  rw [h1, hm]; exact Nat.beq_refl n
 ·cases hb : Nat.ble (Nat.add sLen n) sCap with
  | false => rfl
  | true => have : sLen + n ≤ sCap := Nat.le_of_ble_eq_true hb; omega
 ·refine Nat.ble_eq_true_of_le ?_
  show (2 * (sLen + n) + 1000) * 1 ≤ _
  omega
 ·refine Nat.ble_eq_true_of_le ?_
  show sLen + n ≤ _
  omega
theorem growOk_ok {n sLen sCap nb : Nat} {new : List Value} {src old : Option (List Value)} {l : List Value} (hs : src = some new) (h1 : new.length = n) (h2 : new.all oneCell = true) (h3 : sCap < sLen + n) (h4 : sLen + n ≤ 1000000000) (h5 : nb = sLen) (h6 : old = some l) :
  growOk n 1 1 sLen sCap 0 nb src new old = true := by
 unfold growOk
 simp only [Bool.and_eq_true]
 refine ⟨newOk_ok hs h1 h2 h3 h4, ?_, isS_some h6⟩
 have : Nat.add 0 (Nat.mul sLen 1) = nb := by
  show 0 + sLen * 1 = nb
  omega
 rw [this]
 exact Nat.beq_refl nb
theorem loadOld_row {H : Hp} {b : Nat} {ob : AObj} {s : ByteArray} (h : H.get b = some ob) (hd : ob.dat = some (.cells (bytesV s).length (T.setList .nil 0 (bytesV s)))) : loadOld H b 0 (Nat.mul s.size 1) = some (bytesV s) := by
 have e : Nat.mul s.size 1 = (bytesV s).length := by rw [bytesV_len]; exact Nat.mul_one _
 rw [e]
 unfold loadOld
 cases hz : Nat.beq (bytesV s).length 0 with
 | true =>
  have := Nat.eq_of_beq_eq_true hz
  have : bytesV s = [] := List.eq_nil_of_length_eq_zero this
  rw [this]
 | false =>
  simp only [loadN, h, hd]
  have : Nat.ble (Nat.add 0 (bytesV s).length) (bytesV s).length = true := Nat.ble_eq_true_of_le (by show 0 + (bytesV s).length ≤ _; omega)
  rw [this]
  simp only [if_true]
  exact readN_all _
theorem loadN_row {H : Hp} {b : Nat} {ob : AObj} {s : ByteArray} (h : H.get b = some ob) (hd : ob.dat = some (.cells (bytesV s).length (T.setList .nil 0 (bytesV s)))) : loadN H b 0 s.size = some (bytesV s) := by
 have e : s.size = (bytesV s).length := by rw [bytesV_len]
 rw [e]
 simp only [loadN, h, hd]
 have : Nat.ble (Nat.add 0 (bytesV s).length) (bytesV s).length = true := Nat.ble_eq_true_of_le (by show 0 + (bytesV s).length ≤ _; omega)
 rw [this]
 simp only [if_true]
 exact readN_all _
theorem bytesOf_row : ∀ (l : List UInt8) (acc : ByteArray), bytesOf (l.map fun b => Value.int .u8 b.toNat) acc = some (acc ++ ⟨l.toArray⟩)
 | [], acc => by
  simp only [List.map_nil, bytesOf]
  congr 1
  apply ByteArray.ext
  simp
 | b :: l, acc => by
  simp only [List.map_cons, bytesOf]
  rw [bytesOf_row l]
  congr 1
  apply ByteArray.ext
  simp [ByteArray.push]
theorem strAt_row {H : Hp} {b : Nat} {ob : AObj} {s : ByteArray} (h : H.get b = some ob) (hd : ob.dat = some (.cells (bytesV s).length (T.setList .nil 0 (bytesV s)))) : strAt H b 0 s.size = s ∧ strOk H b 0 s.size = true := by
 have e1 := loadN_row h hd
 have e2 : bytesOf (bytesV s) ByteArray.empty = some s := by
  unfold bytesV
  rw [bytesOf_row]
  congr 1
 unfold strAt strOk
 rw [e1]
 simp only [e2]
 exact ⟨trivial, rfl⟩
theorem vO {o : Option (AExit × St × List Bool × List RecO)} {ro : AExit × St × List Bool × List RecO} {r' : Nat → Nat} {b1 id elem esz : Nat} {exact : Bool} {vs : List Value} (h : o.map (fun r => cellView r.2.1.H b1) = some (some (elem, esz, exact, vs.map (rn r' 60)))) (hr : o = some ro) :
  ObjOk r' ro.2.1.H b1 (mkCells id elem esz exact vs) := ObjOk.view (of_road (f := fun r => cellView r.2.1.H b1) h hr)
theorem row_new {o : Option (AExit × St × List Bool × List RecO)} {ro : AExit × St × List Bool × List RecO} {r' : Nat → Nat} {b1 id elem esz : Nat} {exact : Bool} {new : List Value} {s : ByteArray} (h : o.map (fun r => objView r.2.1.H b1) = some (some (elem, esz, exact, new.length, T.setList .nil 0 new))) (hr : o = some ro) (hn : new = bytesV s) :
  ObjOk r' ro.2.1.H b1 (mkCells id elem esz exact (bytesV s)) := by
 subst hn
 refine ObjOk.rowView (of_road (f := fun r => objView r.2.1.H b1) h hr) rfl (bytesV_closed s) (fun i hi => ?_)
 rw [T.get_setList, if_pos (by omega)]
 simp
theorem row_same {o : Option (AExit × St × List Bool × List RecO)} {ro : AExit × St × List Bool × List RecO} {r' : Nat → Nat} {b1 id elem esz : Nat} {exact : Bool} {s : ByteArray} (h : o.map (fun r => objView r.2.1.H b1) = some (some (elem, esz, exact, (bytesV s).length, T.setList .nil 0 (bytesV s)))) (hr : o = some ro) :
  ObjOk r' ro.2.1.H b1 (mkCells id elem esz exact (bytesV s)) := row_new h hr rfl
theorem row_app {o : Option (AExit × St × List Bool × List RecO)} {ro : AExit × St × List Bool × List RecO} {r' : Nat → Nat} {b1 id elem esz : Nat} {exact : Bool} {new : List Value} {s t : ByteArray}
  (h : o.map (fun r => objView r.2.1.H b1) = some (some (elem, esz, exact, Nat.add (Nat.mul s.size 1) new.length, (T.setList .nil 0 (bytesV s)).setList (Nat.mul s.size 1) new))) (hr : o = some ro) (hn : new = bytesV t) :
  ObjOk r' ro.2.1.H b1 (mkCells id elem esz exact (bytesV (s ++ t))) := by
 subst hn
 have hm : Nat.mul s.size 1 = (bytesV s).length := by rw [bytesV_len]; exact Nat.mul_one _
 refine ObjOk.rowView (of_road (f := fun r => objView r.2.1.H b1) h hr) ?_ (bytesV_closed _) (fun i hi => ?_)
 ·rw [bytesV_append, List.length_append, hm]; rfl
 ·rw [hm] at hi ⊢
  have hi : i < (bytesV s).length + (bytesV t).length := hi
  rw [bytesV_append, T.get_setList]
  by_cases h1 : i < (bytesV s).length
  ·rw [if_neg (by omega), T.get_setList, if_pos (by omega), List.getElem?_append_left h1]
   simp
  ·rw [if_pos (by omega), List.getElem?_append_right (by omega)]
variable {cx : Cx}
inductive Sp
 | cells (b id elem esz : Nat) (exact : Bool) (vs : List Value)
 | map (b id : Nat) (es : List MapEntry) (clock : Nat)
 | row (b id : Nat) (new : List Value) (t : ByteArray)
 | app (b id : Nat) (s : ByteArray) (new : List Value) (t : ByteArray)
inductive VW
 | c (x : Option (TypeId × Nat × Bool × List Value))
 | m (x : Option (TypeId × Nat × Bool × List MapEntry × Nat))
 | o (x : Option (TypeId × Nat × Bool × Nat × T Value))
def Sp.obj : Sp → Nat × Nat × AObj
 | .cells b id elem esz exact vs => (id, b, mkCells id elem esz exact vs)
 | .map b id es clock => (id, b, { dat := some (.map es clock), elem := 0, esz := 0, exact := true, root := id, kin := [id] })
 | .row b id new t => (id, b, mkCells id 5 1 false (bytesV t))
 | .app b id s new t => (id, b, mkCells id 5 1 false (bytesV (s ++ t)))
def Sp.view (x : Sp) (H : Hp) : VW := match x with
 | .cells b _ _ _ _ _ => .c (cellView H b)
 | .map b _ _ _ => .m (mapView H b)
 | .row b _ _ _ => .o (objView H b)
 | .app b _ _ _ _ => .o (objView H b)
def Sp.want (x : Sp) (r : Nat → Nat) : VW := match x with
 | .cells _ _ elem esz exact vs => .c (some (elem, esz, exact, vs.map (rn r 60)))
 | .map _ _ es clock => .m (some (0, 0, true, es.map (fun e => { key := rn r 60 e.key, val := rn r 60 e.val, born := e.born }), clock))
 | .row _ _ new _ => .o (some (5, 1, false, new.length, T.setList .nil 0 new))
 | .app _ _ s new _ => .o (some (5, 1, false, Nat.add (Nat.mul s.size 1) new.length, (T.setList .nil 0 (bytesV s)).setList (Nat.mul s.size 1) new))
def Sp.good : Sp → Prop
 | .row _ _ new t => new = bytesV t
 | .app _ _ _ new t => new = bytesV t
 | _ => True
theorem Sp.ok {x : Sp} {o : Option (AExit × St × List Bool × List RecO)} {ro : AExit × St × List Bool × List RecO} {r : Nat → Nat} (h : x.view ro.2.1.H = x.want r) (hr : o = some ro) (hg : x.good) : ObjOk r ro.2.1.H x.obj.2.1 x.obj.2.2 := by
 subst hr
 cases x with
 | cells b id elem esz exact vs =>
  simp only [Sp.view, Sp.want, VW.c.injEq] at h
  exact ObjOk.view h
 | map b id es clock =>
  simp only [Sp.view, Sp.want, VW.m.injEq] at h
  exact ObjOk.mapView h
 | row b id new t =>
  simp only [Sp.view, Sp.want, VW.o.injEq] at h
  exact row_new (o := some ro) (congrArg some h) rfl hg
 | app b id s new t =>
  simp only [Sp.view, Sp.want, VW.o.injEq] at h
  exact row_app (o := some ro) (congrArg some h) rfl hg
theorem objs_of {sps : List Sp} {o : Option (AExit × St × List Bool × List RecO)} {ro : AExit × St × List Bool × List RecO} {r : Nat → Nat} (h : sps.map (fun x => x.view ro.2.1.H) = sps.map (fun x => x.want r)) (hr : o = some ro) (hg : ∀ x ∈ sps, x.good) : ∀ y ∈ sps.map Sp.obj, ObjOk r ro.2.1.H y.2.1 y.2.2 := by
 intro y hy
 obtain ⟨x, hx, rfl⟩ := List.mem_map.1 hy
 exact Sp.ok (List.map_inj_left.1 h x hx) hr (hg x hx)
def roadT (cx : Cx) (n0 nt d nx2 : Nat) (m : List Bool) (l : List (Nat × Value)) (sps : List Sp) (r : AExit × St × List Bool × List RecO) : List Bool × AExit × Bool × Bool × List Value × List VW :=
 (sel m r.2.2.2, r.1, rest m r.2.2.2, renChk cx.lo n0 nt d nx2 r.2.1 l (sps.map Sp.obj) && Nat.ble r.2.1.nx big, l.map (fun q => St.eval r.2.1.tm (.tmp q.1)), sps.map (fun x => x.view r.2.1.H))
def roadW (n0 : Nat) (bl : List Bool) (e : AExit) (l : List (Nat × Value)) (sps : List Sp) : List Bool × AExit × Bool × Bool × List Value × List VW :=
 (bl, e, true, true, l.map (fun q => rn (rOf n0 (sps.map Sp.obj) big) 60 q.2), sps.map (fun x => x.want (rOf n0 (sps.map Sp.obj) big)))
theorem roadT_eq {o : Option (AExit × St × List Bool × List RecO)} {n0 nt d nx2 : Nat} {m bl : List Bool} {l : List (Nat × Value)} {sps : List Sp} {e : AExit} (h : o.map (roadT cx n0 nt d nx2 m l sps) = some (roadW n0 bl e l sps)) :
  o.map (fun r => sel m r.2.2.2) = some bl ∧ o.map (fun r => (r.1, rest m r.2.2.2, renChk cx.lo n0 nt d nx2 r.2.1 l (sps.map Sp.obj) && Nat.ble r.2.1.nx big)) = some (e, true, true) ∧
  o.map (fun r => l.map fun q => St.eval r.2.1.tm (.tmp q.1)) = some (l.map fun q => rn (rOf n0 (sps.map Sp.obj) big) 60 q.2) ∧
  (∀ r, o = some r → sps.map (fun x => x.view r.2.1.H) = sps.map (fun x => x.want (rOf n0 (sps.map Sp.obj) big))) := by
 cases o with
 | none => cases h
 | some r =>
  simp only [Option.map_some, Option.some.injEq, roadT, roadW, Prod.mk.injEq] at h ⊢
  obtain ⟨h1, h2, h3, h4, h5, h6⟩ := h
  exact ⟨h1, ⟨h2, h3, h4⟩, h5, fun r' hr => by cases hr; exact h6⟩
theorem Tr.roadS {hk : Hook} (hh : HookOk cx hk) (hc : CxOk cx) (hI : IntrOk cx) {k nt n n0 d nx2 : Nat} {c : Code} {s : St} {p m bl : List Bool} {e : AExit} {l : List (Nat × Value)} {sps : List Sp} {Q : AExit → St → Prop}
  (h : (evCodeO cx hk (evFuncO cx hk k) nt n c s p).map (roadT cx n0 nt d nx2 m l sps) = some (roadW n0 bl e l sps))
  (he : (evCodeO cx hk (evFuncO cx hk k) nt n c s p).map (fun r => lefts r.2.2.2) = (evCodeO cx hk (evFuncO cx hk k) nt n c s p).map (fun r => rights r.2.2.2))
  (hn : (Nat.ble n0 s.nx && (Nat.ble cx.lo n0 && Nat.ble cx.ng n0)) = true) (hg : ∀ x ∈ sps, x.good) (hl : ∀ b ∈ bl, b = true) (hq : Q e (canon d nx2 l (sps.map Sp.obj))) : Tr cx n0 nt c s Q := by
 obtain ⟨h1, h2, h3, h4⟩ := roadT_eq h
 exact Tr.road hh hc hI h1 h2 he h3 (fun r hr => objs_of (h4 r hr) hr hg) hn hl hq
theorem TrL.roadS {hk : Hook} (hh : HookOk cx hk) (hc : CxOk cx) (hI : IntrOk cx) {k nt n n0 d nx2 : Nat} {lc lc' : List Code} {c' : Code} {s : St} {p m bl : List Bool} {l : List (Nat × Value)} {sps : List Sp} {Q : AExit → St → Prop}
  (h : (evCodeO cx hk (evFuncO cx hk k) nt n (unspine lc) s p).map (roadT cx n0 nt d nx2 m l sps) = some (roadW n0 bl .normal l sps))
  (he : (evCodeO cx hk (evFuncO cx hk k) nt n (unspine lc) s p).map (fun r => lefts r.2.2.2) = (evCodeO cx hk (evFuncO cx hk k) nt n (unspine lc) s p).map (fun r => rights r.2.2.2))
  (hn : (Nat.ble n0 s.nx && (Nat.ble cx.lo n0 && Nat.ble cx.ng n0)) = true) (hg : ∀ x ∈ sps, x.good) (hl : ∀ b ∈ bl, b = true) (hq : TrL cx n0 nt (c' :: lc') (canon d nx2 l (sps.map Sp.obj)) Q) : TrL cx n0 nt (lc ++ c' :: lc') s Q := by
 obtain ⟨h1, h2, h3, h4⟩ := roadT_eq h
 exact TrL.road hh hc hI h1 h2 he h3 (fun r hr => objs_of (h4 r hr) hr hg) hn hl hq
end Go.Ev
namespace Go.Proofs.YthopphfehgdocaaGreatDoor
open Go Go.RowKit Go.Ev Go.Proofs Go.Shelf
noncomputable def wrB : Code := loopB Tryz.f38 0
def tmV (Y M D ho mi : Int) (S : Nat) (W J : Int) : List Value := [.int .i64 Y, .int .i64 M, .int .i64 D, .int .i64 ho, .int .i64 mi, .float .f64 S, .int .i64 W, .int .i64 J]
def wr0 (Y M D ho mi : Int) (S : Nat) (W J n : Int) (f : ByteArray) (i : Int) : St := canon 7 13 [(1, .int .i64 n), (2, .string f), (3, .pointer (some ⟨12, 0, none⟩)), (7, .slice none 0 0), (8, .int .i64 i)] [(12, 12, mkCells 12 24 8 true (tmV Y M D ho mi S W J))]
def wr1 (Y M D ho mi : Int) (S : Nat) (W J n : Int) (f : ByteArray) (i : Int) (s : ByteArray) : St := canon 7 14 [(1, .int .i64 n), (2, .string f), (3, .pointer (some ⟨12, 0, none⟩)), (7, .slice (some ⟨13, 0, none⟩) s.size s.size), (8, .int .i64 i)] [(12, 12, mkCells 12 24 8 true (tmV Y M D ho mi S W J)), (13, 13, mkCells 13 5 1 false (bytesV s))]
def wrNx (i : Int) : Int := IntKind.i64.wrap (i + 1)
def atI (f : ByteArray) (i : Int) : UInt8 := (f[i.toNat]?).getD 0
def rLt (f : ByteArray) (i : Int) : Bool := decide (i < ((f.size : Nat) : Int))
def rAt (f : ByteArray) (i : Int) : Bool := decide (0 ≤ i) && Option.isSome (f[i.toNat]?)
def r37 (f : ByteArray) (i : Int) : Bool := ((((f[i.toNat]?).getD 0).toNat : Nat) : Int) != 37
def rB (f : ByteArray) (i : Int) : Int := (((f[(IntKind.i64.wrap (i + 1)).toNat]?).getD 0).toNat : Nat)
def rEnd (f : ByteArray) (i : Int) : Bool := IntKind.i64.wrap (i + 1) == ((f.size : Nat) : Int)
def rN1 (f : ByteArray) (i : Int) : Bool := newOk 1 1 1 0 0 (some [Value.int .u8 (((f[i.toNat]?).getD 0).toNat : Int)]) [Value.int .u8 (((f[i.toNat]?).getD 0).toNat : Int)]
def rG1 (f : ByteArray) (i : Int) (s : ByteArray) (H : Hp) (b : Nat) : Bool := growOk 1 1 1 s.size s.size 0 (bytesV s).length (some [Value.int .u8 (((f[i.toNat]?).getD 0).toNat : Int)]) [Value.int .u8 (((f[i.toNat]?).getD 0).toNat : Int)] (loadOld H b 0 (Nat.mul s.size 1))
def at1 (f : ByteArray) (i : Int) : ByteArray := ⟨#[atI f i]⟩
def wrHp (Y M D ho mi : Int) (S : Nat) (W J : Int) (s : ByteArray) : Hp := hpOf [(12, 12, mkCells 12 24 8 true (tmV Y M D ho mi S W J)), (13, 13, mkCells 13 5 1 false (bytesV s))]
theorem at1_bytes (f : ByteArray) (i : Int) : [Value.int .u8 (((f[i.toNat]?).getD 0).toNat : Int)] = bytesV (at1 f i) := rfl
theorem wr0_plain (Y M D ho mi : Int) (S : Nat) (W J n : Int) (f : ByteArray) (i : Int) (h1 : ((rLt f i) == true) = true) (h2 : (rAt f i) = true) (h3 : ((r37 f i) == true) = true) (h4 : rN1 f i = true) {Q : AExit → St → Prop} (hq : Q .normal (canon 7 14 [(1, .int .i64 n), (2, .string f), (3, .pointer (some ⟨12, 0, none⟩)), (7, .slice (some ⟨13, 0, none⟩) (Nat.add 0 1) (Nat.add 0 1)), (8, .int .i64 (wrNx i))] [(12, 12, mkCells 12 24 8 true (tmV Y M D ho mi S W J)), (13, 28, mkCells 13 5 1 false (bytesV (at1 f i)))])) : Tr (withFns cx0 laV lpV) 12 68 (wrB) (wr0 Y M D ho mi S W J n f i) Q :=
 Tr.road (hkW laV lpV) (CxOk.withFns cx_ok laV lpV) (withFns_intr laV_sound lpV_sound) (m := (bitsN 11 1791)) (p := (bitsN 9 255)) (k := 5) (n := 30) (by kernel_rfl) (by kernel_rfl) (by kernel_rfl) (by kernel_rfl) (fun r hr => jC (vO (by kernel_rfl) hr) (jC (row_new (new := [Value.int .u8 (((f[i.toNat]?).getD 0).toNat : Int)]) (by kernel_rfl) hr (at1_bytes f i)) jN)) (by kernel_rfl) (aC h1 (aC h2 (C6 h3 (aC h2 (aC h4 aN))))) hq
theorem wr1_plain (Y M D ho mi : Int) (S : Nat) (W J n : Int) (f : ByteArray) (i : Int) (s : ByteArray) (h1 : ((rLt f i) == true) = true) (h2 : (rAt f i) = true) (h3 : ((r37 f i) == true) = true) (h4 : rG1 f i s (wrHp Y M D ho mi S W J s) 13 = true) {Q : AExit → St → Prop} (hq : Q .normal (canon 7 14 [(1, .int .i64 n), (2, .string f), (3, .pointer (some ⟨12, 0, none⟩)), (7, .slice (some ⟨13, 0, none⟩) (Nat.add s.size 1) (Nat.add s.size 1)), (8, .int .i64 (wrNx i))] [(12, 12, mkCells 12 24 8 true (tmV Y M D ho mi S W J)), (13, 29, mkCells 13 5 1 false (bytesV (s ++ (at1 f i))))])) : Tr (withFns cx0 laV lpV) 12 68 (wrB) (wr1 Y M D ho mi S W J n f i s) Q :=
 Tr.road (hkW laV lpV) (CxOk.withFns cx_ok laV lpV) (withFns_intr laV_sound lpV_sound) (m := (bitsN 11 1791)) (p := (bitsN 9 255)) (k := 5) (n := 30) (by kernel_rfl) (by kernel_rfl) (by kernel_rfl) (by kernel_rfl) (fun r hr => jC (vO (by kernel_rfl) hr) (jC (row_app (s := s) (new := [Value.int .u8 (((f[i.toNat]?).getD 0).toNat : Int)]) (by kernel_rfl) hr (at1_bytes f i)) jN)) (by kernel_rfl) (aC h1 (aC h2 (C6 h3 (aC h2 (aC h4 aN))))) hq
theorem wr0_last (Y M D ho mi : Int) (S : Nat) (W J n : Int) (f : ByteArray) (i : Int) (h1 : ((rLt f i) == true) = true) (h2 : (rAt f i) = true) (h3 : ((r37 f i) == false) = true) (h4 : ((rEnd f i) == true) = true) (h5 : rN1 f i = true) {Q : AExit → St → Prop} (hq : Q .normal (canon 7 14 [(1, .int .i64 n), (2, .string f), (3, .pointer (some ⟨12, 0, none⟩)), (7, .slice (some ⟨13, 0, none⟩) (Nat.add 0 1) (Nat.add 0 1)), (8, .int .i64 (wrNx i))] [(12, 12, mkCells 12 24 8 true (tmV Y M D ho mi S W J)), (13, 33, mkCells 13 5 1 false (bytesV (at1 f i)))])) : Tr (withFns cx0 laV lpV) 12 68 (wrB) (wr0 Y M D ho mi S W J n f i) Q :=
 Tr.road (hkW laV lpV) (CxOk.withFns cx_ok laV lpV) (withFns_intr laV_sound lpV_sound) (m := (bitsN 11 2047)) (p := (bitsN 9 129)) (k := 5) (n := 30) (by kernel_rfl) (by kernel_rfl) (by kernel_rfl) (by kernel_rfl) (fun r hr => jC (vO (by kernel_rfl) hr) (jC (row_new (new := [Value.int .u8 (((f[i.toNat]?).getD 0).toNat : Int)]) (by kernel_rfl) hr (at1_bytes f i)) jN)) (by kernel_rfl) (aC h1 (aC h2 (C6 h3 (aC h4 (aC h2 (aC h5 aN)))))) hq
theorem wr1_last (Y M D ho mi : Int) (S : Nat) (W J n : Int) (f : ByteArray) (i : Int) (s : ByteArray) (h1 : ((rLt f i) == true) = true) (h2 : (rAt f i) = true) (h3 : ((r37 f i) == false) = true) (h4 : ((rEnd f i) == true) = true) (h5 : rG1 f i s (wrHp Y M D ho mi S W J s) 13 = true) {Q : AExit → St → Prop} (hq : Q .normal (canon 7 14 [(1, .int .i64 n), (2, .string f), (3, .pointer (some ⟨12, 0, none⟩)), (7, .slice (some ⟨13, 0, none⟩) (Nat.add s.size 1) (Nat.add s.size 1)), (8, .int .i64 (wrNx i))] [(12, 12, mkCells 12 24 8 true (tmV Y M D ho mi S W J)), (13, 34, mkCells 13 5 1 false (bytesV (s ++ (at1 f i))))])) : Tr (withFns cx0 laV lpV) 12 68 (wrB) (wr1 Y M D ho mi S W J n f i s) Q :=
 Tr.road (hkW laV lpV) (CxOk.withFns cx_ok laV lpV) (withFns_intr laV_sound lpV_sound) (m := (bitsN 11 2047)) (p := (bitsN 9 129)) (k := 5) (n := 30) (by kernel_rfl) (by kernel_rfl) (by kernel_rfl) (by kernel_rfl) (fun r hr => jC (vO (by kernel_rfl) hr) (jC (row_app (s := s) (new := [Value.int .u8 (((f[i.toNat]?).getD 0).toNat : Int)]) (by kernel_rfl) hr (at1_bytes f i)) jN)) (by kernel_rfl) (aC h1 (aC h2 (C6 h3 (aC h4 (aC h2 (aC h5 aN)))))) hq
theorem wr0_dir (Y M D ho mi : Int) (S : Nat) (W J n : Int) (f : ByteArray) (i : Int) (h1 : ((rLt f i) == true) = true) (h2 : (rAt f i) = true) (h3 : ((r37 f i) == false) = true) (h4 : ((rEnd f i) == false) = true) (h5 : (rAt f (wrNx i)) = true) (h6 : ((pieceOkF Y M D ho mi S W J n (rB f i)) == true) = true) (h7 : ((!((ByteArray.toList (longerF (rB f i))) == (ByteArray.toList (ByteArray.mk #[])))) == false) = true) (h8 : ((!(pieceBF (rB f i))) == false) = true) (h9 : newOk (pieceSF Y M D ho mi S W J n (atI f (wrNx i)).toNat).size 1 1 0 0 (some (strL (pieceSF Y M D ho mi S W J n (atI f (wrNx i)).toNat))) (strL (pieceSF Y M D ho mi S W J n (atI f (wrNx i)).toNat)) = true) {Q : AExit → St → Prop} (hq : Q .normal (canon 7 14 [(1, .int .i64 n), (2, .string f), (3, .pointer (some ⟨12, 0, none⟩)), (7, .slice (some ⟨13, 0, none⟩) (Nat.add 0 (pieceSF Y M D ho mi S W J n (atI f (wrNx i)).toNat).size) (Nat.add 0 (pieceSF Y M D ho mi S W J n (atI f (wrNx i)).toNat).size)), (8, .int .i64 (wrNx (wrNx i)))] [(12, 12, mkCells 12 24 8 true (tmV Y M D ho mi S W J)), (13, 49, mkCells 13 5 1 false (bytesV (pieceSF Y M D ho mi S W J n (atI f (wrNx i)).toNat)))])) : Tr (withFns cx0 laV lpV) 12 68 (wrB) (wr0 Y M D ho mi S W J n f i) Q :=
 Tr.road (hkW laV lpV) (CxOk.withFns cx_ok laV lpV) (withFns_intr laV_sound lpV_sound) (m := (bitsN 14 16383)) (p := (bitsN 11 1)) (k := 5) (n := 30) (by kernel_rfl) (by kernel_rfl) (by kernel_rfl) (by kernel_rfl) (fun r hr => jC (vO (by kernel_rfl) hr) (jC (row_new (new := (strL (pieceSF Y M D ho mi S W J n (atI f (wrNx i)).toNat))) (by kernel_rfl) hr (strL_eq _)) jN)) (by kernel_rfl) (aC h1 (aC h2 (C6 h3 (aC h4 (aC h5 (aC h6 (aC h7 (aC h8 (aC h9 aN))))))))) hq
theorem wr1_dir (Y M D ho mi : Int) (S : Nat) (W J n : Int) (f : ByteArray) (i : Int) (s : ByteArray) (h1 : ((rLt f i) == true) = true) (h2 : (rAt f i) = true) (h3 : ((r37 f i) == false) = true) (h4 : ((rEnd f i) == false) = true) (h5 : (rAt f (wrNx i)) = true) (h6 : ((pieceOkF Y M D ho mi S W J n (rB f i)) == true) = true) (h7 : ((!((ByteArray.toList (longerF (rB f i))) == (ByteArray.toList (ByteArray.mk #[])))) == false) = true) (h8 : ((!(pieceBF (rB f i))) == false) = true) (h9 : growOk (pieceSF Y M D ho mi S W J n (atI f (wrNx i)).toNat).size 1 1 s.size s.size 0 (bytesV s).length (some (strL (pieceSF Y M D ho mi S W J n (atI f (wrNx i)).toNat))) (strL (pieceSF Y M D ho mi S W J n (atI f (wrNx i)).toNat)) (loadOld (wrHp Y M D ho mi S W J s) 13 0 (Nat.mul s.size 1)) = true) {Q : AExit → St → Prop} (hq : Q .normal (canon 7 14 [(1, .int .i64 n), (2, .string f), (3, .pointer (some ⟨12, 0, none⟩)), (7, .slice (some ⟨13, 0, none⟩) (Nat.add s.size (pieceSF Y M D ho mi S W J n (atI f (wrNx i)).toNat).size) (Nat.add s.size (pieceSF Y M D ho mi S W J n (atI f (wrNx i)).toNat).size)), (8, .int .i64 (wrNx (wrNx i)))] [(12, 12, mkCells 12 24 8 true (tmV Y M D ho mi S W J)), (13, 50, mkCells 13 5 1 false (bytesV (s ++ (pieceSF Y M D ho mi S W J n (atI f (wrNx i)).toNat))))])) : Tr (withFns cx0 laV lpV) 12 68 (wrB) (wr1 Y M D ho mi S W J n f i s) Q :=
 Tr.road (hkW laV lpV) (CxOk.withFns cx_ok laV lpV) (withFns_intr laV_sound lpV_sound) (m := (bitsN 14 16383)) (p := (bitsN 11 1)) (k := 5) (n := 30) (by kernel_rfl) (by kernel_rfl) (by kernel_rfl) (by kernel_rfl) (fun r hr => jC (vO (by kernel_rfl) hr) (jC (row_app (s := s) (new := (strL (pieceSF Y M D ho mi S W J n (atI f (wrNx i)).toNat))) (by kernel_rfl) hr (strL_eq _)) jN)) (by kernel_rfl) (aC h1 (aC h2 (C6 h3 (aC h4 (aC h5 (aC h6 (aC h7 (aC h8 (aC h9 aN))))))))) hq
theorem wr0_not (Y M D ho mi : Int) (S : Nat) (W J n : Int) (f : ByteArray) (i : Int) (h1 : ((rLt f i) == true) = true) (h2 : (rAt f i) = true) (h3 : ((r37 f i) == false) = true) (h4 : ((rEnd f i) == false) = true) (h5 : (rAt f (wrNx i)) = true) (h6 : ((pieceOkF Y M D ho mi S W J n (rB f i)) == true) = true) (h7 : ((!((ByteArray.toList (longerF (rB f i))) == (ByteArray.toList (ByteArray.mk #[])))) == false) = true) (h8 : ((!(pieceBF (rB f i))) == true) = true) (h9 : (((decide (0 ≤ (IntKind.i64.wrap (i + 2)))) && (decide ((IntKind.i64.wrap (i + 2)) ≤ ((((ByteArray.size f) : Nat) : Int))))) && ((decide (0 ≤ i)) && (decide (i ≤ ((((Int.toNat (IntKind.i64.wrap (i + 2))) : Nat) : Int)))))) = true) (h10 : newOk (f.extract i.toNat (IntKind.i64.wrap (i + 2)).toNat).size 1 1 0 0 (some (strL (f.extract i.toNat (IntKind.i64.wrap (i + 2)).toNat))) (strL (f.extract i.toNat (IntKind.i64.wrap (i + 2)).toNat)) = true) {Q : AExit → St → Prop} (hq : Q .normal (canon 7 14 [(1, .int .i64 n), (2, .string f), (3, .pointer (some ⟨12, 0, none⟩)), (7, .slice (some ⟨13, 0, none⟩) (Nat.add 0 (f.extract i.toNat (IntKind.i64.wrap (i + 2)).toNat).size) (Nat.add 0 (f.extract i.toNat (IntKind.i64.wrap (i + 2)).toNat).size)), (8, .int .i64 (wrNx (wrNx i)))] [(12, 12, mkCells 12 24 8 true (tmV Y M D ho mi S W J)), (13, 55, mkCells 13 5 1 false (bytesV (f.extract i.toNat (IntKind.i64.wrap (i + 2)).toNat)))])) : Tr (withFns cx0 laV lpV) 12 68 (wrB) (wr0 Y M D ho mi S W J n f i) Q :=
 Tr.road (hkW laV lpV) (CxOk.withFns cx_ok laV lpV) (withFns_intr laV_sound lpV_sound) (m := (bitsN 15 32767)) (p := (bitsN 11 513)) (k := 5) (n := 30) (by kernel_rfl) (by kernel_rfl) (by kernel_rfl) (by kernel_rfl) (fun r hr => jC (vO (by kernel_rfl) hr) (jC (row_new (new := (strL (f.extract i.toNat (IntKind.i64.wrap (i + 2)).toNat))) (by kernel_rfl) hr (strL_eq _)) jN)) (by kernel_rfl) (aC h1 (aC h2 (C6 h3 (aC h4 (aC h5 (aC h6 (aC h7 (aC h8 (aC h9 (aC h10 aN)))))))))) hq
theorem wr1_not (Y M D ho mi : Int) (S : Nat) (W J n : Int) (f : ByteArray) (i : Int) (s : ByteArray) (h1 : ((rLt f i) == true) = true) (h2 : (rAt f i) = true) (h3 : ((r37 f i) == false) = true) (h4 : ((rEnd f i) == false) = true) (h5 : (rAt f (wrNx i)) = true) (h6 : ((pieceOkF Y M D ho mi S W J n (rB f i)) == true) = true) (h7 : ((!((ByteArray.toList (longerF (rB f i))) == (ByteArray.toList (ByteArray.mk #[])))) == false) = true) (h8 : ((!(pieceBF (rB f i))) == true) = true) (h9 : (((decide (0 ≤ (IntKind.i64.wrap (i + 2)))) && (decide ((IntKind.i64.wrap (i + 2)) ≤ ((((ByteArray.size f) : Nat) : Int))))) && ((decide (0 ≤ i)) && (decide (i ≤ ((((Int.toNat (IntKind.i64.wrap (i + 2))) : Nat) : Int)))))) = true) (h10 : growOk (f.extract i.toNat (IntKind.i64.wrap (i + 2)).toNat).size 1 1 s.size s.size 0 (bytesV s).length (some (strL (f.extract i.toNat (IntKind.i64.wrap (i + 2)).toNat))) (strL (f.extract i.toNat (IntKind.i64.wrap (i + 2)).toNat)) (loadOld (wrHp Y M D ho mi S W J s) 13 0 (Nat.mul s.size 1)) = true) {Q : AExit → St → Prop} (hq : Q .normal (canon 7 14 [(1, .int .i64 n), (2, .string f), (3, .pointer (some ⟨12, 0, none⟩)), (7, .slice (some ⟨13, 0, none⟩) (Nat.add s.size (f.extract i.toNat (IntKind.i64.wrap (i + 2)).toNat).size) (Nat.add s.size (f.extract i.toNat (IntKind.i64.wrap (i + 2)).toNat).size)), (8, .int .i64 (wrNx (wrNx i)))] [(12, 12, mkCells 12 24 8 true (tmV Y M D ho mi S W J)), (13, 56, mkCells 13 5 1 false (bytesV (s ++ (f.extract i.toNat (IntKind.i64.wrap (i + 2)).toNat))))])) : Tr (withFns cx0 laV lpV) 12 68 (wrB) (wr1 Y M D ho mi S W J n f i s) Q :=
 Tr.road (hkW laV lpV) (CxOk.withFns cx_ok laV lpV) (withFns_intr laV_sound lpV_sound) (m := (bitsN 15 32767)) (p := (bitsN 11 513)) (k := 5) (n := 30) (by kernel_rfl) (by kernel_rfl) (by kernel_rfl) (by kernel_rfl) (fun r hr => jC (vO (by kernel_rfl) hr) (jC (row_app (s := s) (new := (strL (f.extract i.toNat (IntKind.i64.wrap (i + 2)).toNat))) (by kernel_rfl) hr (strL_eq _)) jN)) (by kernel_rfl) (aC h1 (aC h2 (C6 h3 (aC h4 (aC h5 (aC h6 (aC h7 (aC h8 (aC h9 (aC h10 aN)))))))))) hq
theorem wr0_out (Y M D ho mi : Int) (S : Nat) (W J n : Int) (f : ByteArray) (i : Int) (h1 : ((rLt f i) == false) = true) {Q : AExit → St → Prop} (hq : Q (.exit 0) (canon 7 13 [(1, .int .i64 n), (2, .string f), (3, .pointer (some ⟨12, 0, none⟩)), (7, .slice none 0 0), (8, .int .i64 i)] [(12, 12, mkCells 12 24 8 true (tmV Y M D ho mi S W J))])) : Tr (withFns cx0 laV lpV) 12 68 (wrB) (wr0 Y M D ho mi S W J n f i) Q :=
 Tr.road (hkW laV lpV) (CxOk.withFns cx_ok laV lpV) (withFns_intr laV_sound lpV_sound) (m := [true]) (p := [false]) (k := 5) (n := 30) (by kernel_rfl) (by kernel_rfl) (by kernel_rfl) (by kernel_rfl) (fun r hr => jC (vO (by kernel_rfl) hr) jN) (by kernel_rfl) (aC h1 aN) hq
theorem wr0_fin (Y M D ho mi : Int) (S : Nat) (W J n : Int) (f : ByteArray) (i : Int) {R : Value → Hp → Nat → Prop}  (hq : ∀ H nx, R (oneOf [(Value.string (ByteArray.mk #[]))]) H nx) : TrL (withFns cx0 laV lpV) 12 68 ((bodyOf Tryz.f38).drop 4) (wr0 Y M D ho mi S W J n f i) (fun e s2 => (match e with | .exit _ => False | _ => True) ∧ ∃ l, evResults (withFns cx0 laV lpV) s2.tm s2.H Tryz.f38.results.toList = some l ∧ R (oneOf l) s2.H s2.nx) :=
 TrL.fin (hkW laV lpV) (CxOk.withFns cx_ok laV lpV) (withFns_intr laV_sound lpV_sound) (m := []) (bl := []) (p := []) (k := 5) (n := 30) (vs := [(Value.string (ByteArray.mk #[]))]) (by kernel_rfl) (by kernel_rfl) (by kernel_rfl) (by kernel_rfl) (by kernel_rfl) aN hq
theorem wr1_out (Y M D ho mi : Int) (S : Nat) (W J n : Int) (f : ByteArray) (i : Int) (s : ByteArray) (h1 : ((rLt f i) == false) = true) {Q : AExit → St → Prop} (hq : Q (.exit 0) (canon 7 14 [(1, .int .i64 n), (2, .string f), (3, .pointer (some ⟨12, 0, none⟩)), (7, .slice (some ⟨13, 0, none⟩) s.size s.size), (8, .int .i64 i)] [(12, 12, mkCells 12 24 8 true (tmV Y M D ho mi S W J)), (13, 13, mkCells 13 5 1 false (bytesV s))])) : Tr (withFns cx0 laV lpV) 12 68 (wrB) (wr1 Y M D ho mi S W J n f i s) Q :=
 Tr.road (hkW laV lpV) (CxOk.withFns cx_ok laV lpV) (withFns_intr laV_sound lpV_sound) (m := [true]) (p := [false]) (k := 5) (n := 30) (by kernel_rfl) (by kernel_rfl) (by kernel_rfl) (by kernel_rfl) (fun r hr => jC (vO (by kernel_rfl) hr) (jC (row_same (by kernel_rfl) hr) jN)) (by kernel_rfl) (aC h1 aN) hq
theorem wr_in (Y M D ho mi : Int) (S : Nat) (W J n : Int) (f : ByteArray)  {Q : AExit → St → Prop} {c' : Code} {lc' : List Code} (hq : TrL (withFns cx0 laV lpV) 12 68 (c' :: lc') (canon 7 13 [(1, .int .i64 n), (2, .string f), (3, .pointer (some ⟨12, 0, none⟩)), (7, .slice none 0 0), (8, .int .i64 0)] [(12, 12, mkCells 12 24 8 true (tmV Y M D ho mi S W J))]) Q) : TrL (withFns cx0 laV lpV) 12 68 ((bodyOf Tryz.f38).take 3 ++ c' :: lc') (entry Tryz.f38 #[.agg (tmV Y M D ho mi S W J).toArray, .int .i64 n, .string f] H0 12) Q :=
 TrL.road (hkW laV lpV) (CxOk.withFns cx_ok laV lpV) (withFns_intr laV_sound lpV_sound) (m := []) (p := []) (k := 5) (n := 30) (by kernel_rfl) (by kernel_rfl) (by kernel_rfl) (by kernel_rfl) (fun r hr => jC (vO (by kernel_rfl) hr) jN) (by kernel_rfl) aN hq
def wrL (d : UInt8 → ByteArray) : List UInt8 → ByteArray
 | [] => ByteArray.empty
 | [x] => ⟨#[x]⟩
 | x :: c :: r => if x = 37 then d c ++ wrL d r else ⟨#[x]⟩ ++ wrL d (c :: r)
def wrK (k : UInt8 → Bool) : List UInt8 → Bool
 | [] => true
 | [x] => true
 | x :: c :: r => if x = 37 then k c && wrK k r else wrK k (c :: r)
theorem len_list (f : ByteArray) : f.data.toList.length = f.size := Array.length_toList
theorem at_list (f : ByteArray) (n : Nat) : f[n]? = f.data.toList[n]? := by
 by_cases h : n < f.size
 ·rw [getElem?_pos f n h]
  have h' : n < f.data.toList.length := by rw [len_list]; exact h
  rw [List.getElem?_eq_getElem h']
  rfl
 ·rw [getElem?_neg f n h]
  rw [List.getElem?_eq_none (by rw [len_list]; omega)]
theorem drop_cons {F : List UInt8} {i : Nat} {x : UInt8} {r : List UInt8} (h : F.drop i = x :: r) : F[i]? = some x ∧ F.drop (i + 1) = r ∧ i < F.length := by
 refine ⟨?_, ?_, ?_⟩
 ·have := congrArg (fun l => l[0]?) h
  simpa [List.getElem?_drop] using this
 ·have := congrArg List.tail h
  simpa [List.tail_drop] using this
 ·have := congrArg List.length h
  simp at this
  omega
theorem extract_two {f : ByteArray} {i : Nat} {a c : UInt8} (hi : i + 1 < f.size) (hx : f[i]? = some a) (hc : f[i + 1]? = some c) : f.extract i (i + 2) = ⟨#[a, c]⟩ := by
 apply ByteArray.ext
 rw [at_list] at hx hc
 have e : (f.extract i (i + 2)).data = f.data.extract i (i + 2) := by simp
 rw [e]
 have hx' : f.data[i]? = some a := by rw [← hx]; exact (Array.getElem?_toList).symm
 have hc' : f.data[i + 1]? = some c := by rw [← hc]; exact (Array.getElem?_toList).symm
 apply Array.ext_getElem?
 intro k
 rw [Array.getElem?_extract]
 have hs : i + 1 < f.data.size := hi
 match k with
 | 0 => rw [if_pos (by omega)]; exact hx'
 | 1 => rw [if_pos (by omega)]; exact hc'
 | k + 2 => rw [if_neg (by omega)]; rfl
noncomputable def code38 : Code := match Tryz.f38.body with
 | some c => c
 | none => .skip
theorem wr_pieces : bodyOf Tryz.f38 = (bodyOf Tryz.f38).take 3 ++ (.block 0 (.loop wrB) :: (bodyOf Tryz.f38).drop 4) := by kernel_rfl
section
variable (Y M D ho mi : Int) (S : Nat) (W J n : Int) (f : ByteArray)
def dir1F (c : UInt8) : ByteArray := if pieceBF c.toNat then pieceSF Y M D ho mi S W J n c.toNat else ⟨#[37, c]⟩
def dir1Ok (c : UInt8) : Bool := pieceOkF Y M D ho mi S W J n c.toNat && ((longerF c.toNat).size == 0) && decide (0 < (dir1F Y M D ho mi S W J n c).size)
def wrSt (s : ByteArray) (i : Nat) : St := if s.size = 0 then wr0 Y M D ho mi S W J n f i else wr1 Y M D ho mi S W J n f i s
theorem post0 (b : Nat) (i : Int) (X : ByteArray) (k : Nat) (hk : k = X.size) : canon 7 14 [(1, .int .i64 n), (2, .string f), (3, .pointer (some ⟨12, 0, none⟩)), (7, .slice (some ⟨13, 0, none⟩) (Nat.add 0 k) (Nat.add 0 k)), (8, .int .i64 i)] [(12, 12, mkCells 12 24 8 true (tmV Y M D ho mi S W J)), (13, b, mkCells 13 5 1 false (bytesV X))] = wr1 Y M D ho mi S W J n f i X := by
 have : Nat.add 0 k = X.size := by rw [hk]; exact Nat.zero_add _
 rw [this]
 rfl
theorem post1 (b : Nat) (i : Int) (s X : ByteArray) (k : Nat) (hk : k = X.size) : canon 7 14 [(1, .int .i64 n), (2, .string f), (3, .pointer (some ⟨12, 0, none⟩)), (7, .slice (some ⟨13, 0, none⟩) (Nat.add s.size k) (Nat.add s.size k)), (8, .int .i64 i)] [(12, 12, mkCells 12 24 8 true (tmV Y M D ho mi S W J)), (13, b, mkCells 13 5 1 false (bytesV (s ++ X)))] = wr1 Y M D ho mi S W J n f i (s ++ X) := by
 have : Nat.add s.size k = (s ++ X).size := by rw [hk, ByteArray.size_append]; rfl
 rw [this]
 rfl
theorem ba_nil {s : ByteArray} (h : s.size = 0) : s = ByteArray.empty := by
 apply ByteArray.ext
 have : s.data.size = 0 := h
 exact Array.eq_empty_of_size_eq_zero this
theorem wrHp_old (s : ByteArray) : loadOld (wrHp Y M D ho mi S W J s) 13 0 (Nat.mul s.size 1) = some (bytesV s) :=
 loadOld_row (ob := mkCells 13 5 1 false (bytesV s)) (by kernel_rfl) rfl
theorem strL_len (X : ByteArray) : (strL X).length = X.size := by rw [strL_eq, bytesV_len]
theorem strL_one (X : ByteArray) : (strL X).all oneCell = true := by rw [strL_eq]; exact bytesV_one X
theorem new_text (X : ByteArray) (h0 : 0 < X.size) (h1 : X.size ≤ 1000000000) : newOk X.size 1 1 0 0 (some (strL X)) (strL X) = true :=
 newOk_ok rfl (strL_len X) (strL_one X) (by omega) (by omega)
theorem grow_text (s X : ByteArray) (h0 : 0 < X.size) (h1 : s.size + X.size ≤ 1000000000) : growOk X.size 1 1 s.size s.size 0 (bytesV s).length (some (strL X)) (strL X) (loadOld (wrHp Y M D ho mi S W J s) 13 0 (Nat.mul s.size 1)) = true :=
 growOk_ok rfl (strL_len X) (strL_one X) (by omega) (by omega) (bytesV_len s) (wrHp_old Y M D ho mi S W J s)
theorem new_one (b : UInt8) : newOk 1 1 1 0 0 (some [Value.int .u8 (b.toNat : Int)]) [Value.int .u8 (b.toNat : Int)] = true :=
 newOk_ok rfl rfl rfl (by omega) (by omega)
theorem grow_one (s : ByteArray) (b : UInt8) (h1 : s.size + 1 ≤ 1000000000) : growOk 1 1 1 s.size s.size 0 (bytesV s).length (some [Value.int .u8 (b.toNat : Int)]) [Value.int .u8 (b.toNat : Int)] (loadOld (wrHp Y M D ho mi S W J s) 13 0 (Nat.mul s.size 1)) = true :=
 growOk_ok rfl rfl rfl (by omega) (by omega) (bytesV_len s) (wrHp_old Y M D ho mi S W J s)
theorem wrNx_eq (i : Nat) (h : i ≤ 2000000000) : wrNx (i : Int) = ((i + 1 : Nat) : Int) := by
 unfold wrNx
 rw [wrap_id _ (by omega) (by omega)]
 omega
variable {f}
theorem c1 {i : Nat} (h : i < f.size) : ((decide ((i : Int) < ((((ByteArray.size f) : Nat) : Int)))) == true) = true := by
 simp; omega
theorem c1n {i : Nat} (h : f.size ≤ i) : ((decide ((i : Int) < ((((ByteArray.size f) : Nat) : Int)))) == false) = true := by
 simp; omega
theorem c2 {i : Nat} {x : UInt8} (h : f[i]? = some x) : ((decide (0 ≤ (i : Int))) && (Option.isSome (GetElem?.getElem? f (Int.toNat (i : Int))))) = true := by
 have e : Int.toNat (i : Int) = i := by omega
 rw [e]
 show (_ && (f[i]?).isSome) = true
 rw [h]
 simp
theorem c3 {i : Nat} {x : UInt8} (h : f[i]? = some x) (hx : x ≠ 37) : ((((((UInt8.toNat (Option.getD (GetElem?.getElem? f (Int.toNat (i : Int))) 0)) : Nat) : Int)) != 37) == true) = true := by
 have e : Int.toNat (i : Int) = i := by omega
 rw [e]
 show (((((f[i]?).getD 0).toNat : Int) != 37) == true) = true
 rw [h]
 have : x.toNat ≠ 37 := fun h => hx (UInt8.toNat_inj.1 h)
 simp
 omega
theorem c3n {i : Nat} (h : f[i]? = some 37) : ((((((UInt8.toNat (Option.getD (GetElem?.getElem? f (Int.toNat (i : Int))) 0)) : Nat) : Int)) != 37) == false) = true := by
 have e : Int.toNat (i : Int) = i := by omega
 rw [e]
 show (((((f[i]?).getD 0).toNat : Int) != 37) == false) = true
 rw [h]
 rfl
theorem c4 {i : Nat} (h : i + 1 = f.size) (hb : f.size ≤ 1000000000) : (((IntKind.i64.wrap ((i : Int) + 1)) == ((((ByteArray.size f) : Nat) : Int))) == true) = true := by
 rw [wrap_id _ (by omega) (by omega)]
 simp; omega
theorem c4n {i : Nat} (h : i + 1 < f.size) (hb : f.size ≤ 1000000000) : (((IntKind.i64.wrap ((i : Int) + 1)) == ((((ByteArray.size f) : Nat) : Int))) == false) = true := by
 rw [wrap_id _ (by omega) (by omega)]
 simp; omega
theorem at1_eq {i : Nat} {x : UInt8} (h : f[i]? = some x) : at1 f (i : Int) = ⟨#[x]⟩ := by
 unfold at1 atI
 have e : Int.toNat (i : Int) = i := by omega
 rw [e, h]
 rfl
theorem atI_eq {i : Nat} {x : UInt8} (h : f[i]? = some x) : atI f (i : Int) = x := by
 unfold atI
 have e : Int.toNat (i : Int) = i := by omega
 rw [e, h]
 rfl
end
section
variable (Y M D ho mi : Int) (S : Nat) (W J n : Int) {f : ByteArray}
theorem wr_plain {s : ByteArray} {i : Nat} {x : UInt8} (hb : f.size ≤ 1000000000) (hi : i < f.size) (hx : f[i]? = some x) (h37 : x ≠ 37) (hs : s.size + 1 ≤ 1000000000) {Q : AExit → St → Prop} (hq : Q .normal (wrSt Y M D ho mi S W J n f (s ++ ⟨#[x]⟩) (i + 1))) : Tr (withFns cx0 laV lpV) 12 68 wrB (wrSt Y M D ho mi S W J n f s i) Q := by
 have e1 : at1 f (i : Int) = ⟨#[x]⟩ := at1_eq hx
 have e2 : wrNx (i : Int) = ((i + 1 : Nat) : Int) := wrNx_eq i (by omega)
 have hne : (s ++ ⟨#[x]⟩).size ≠ 0 := by rw [ByteArray.size_append]; show s.size + 1 ≠ 0; omega
 unfold wrSt at hq
 rw [if_neg hne] at hq
 unfold wrSt
 by_cases h0 : s.size = 0
 ·rw [if_pos h0]
  refine wr0_plain Y M D ho mi S W J n f i (c1 hi) (c2 hx) (c3 hx h37) (new_one _) ?_
  rw [post0 Y M D ho mi S W J n f _ _ (at1 f (i : Int)) 1 rfl, e1, e2]
  have := ba_nil h0
  subst this
  rw [ByteArray.empty_append] at hq
  exact hq
 ·rw [if_neg h0]
  refine wr1_plain Y M D ho mi S W J n f i s (c1 hi) (c2 hx) (c3 hx h37) (grow_one Y M D ho mi S W J s _ hs) ?_
  rw [post1 Y M D ho mi S W J n f _ _ s (at1 f (i : Int)) 1 rfl, e1, e2]
  exact hq
theorem wr_last {s : ByteArray} {i : Nat} (hb : f.size ≤ 1000000000) (hi : i + 1 = f.size) (hx : f[i]? = some 37) (hs : s.size + 1 ≤ 1000000000) {Q : AExit → St → Prop} (hq : Q .normal (wrSt Y M D ho mi S W J n f (s ++ ⟨#[37]⟩) (i + 1))) : Tr (withFns cx0 laV lpV) 12 68 wrB (wrSt Y M D ho mi S W J n f s i) Q := by
 have e1 : at1 f (i : Int) = ⟨#[37]⟩ := at1_eq hx
 have e2 : wrNx (i : Int) = ((i + 1 : Nat) : Int) := wrNx_eq i (by omega)
 have hne : (s ++ ⟨#[37]⟩).size ≠ 0 := by rw [ByteArray.size_append]; show s.size + 1 ≠ 0; omega
 unfold wrSt at hq
 rw [if_neg hne] at hq
 unfold wrSt
 by_cases h0 : s.size = 0
 ·rw [if_pos h0]
  refine wr0_last Y M D ho mi S W J n f i (c1 (by omega)) (c2 hx) (c3n hx) (c4 hi hb) (new_one _) ?_
  rw [post0 Y M D ho mi S W J n f _ _ (at1 f (i : Int)) 1 rfl, e1, e2]
  have := ba_nil h0
  subst this
  rw [ByteArray.empty_append] at hq
  exact hq
 ·rw [if_neg h0]
  refine wr1_last Y M D ho mi S W J n f i s (c1 (by omega)) (c2 hx) (c3n hx) (c4 hi hb) (grow_one Y M D ho mi S W J s _ hs) ?_
  rw [post1 Y M D ho mi S W J n f _ _ s (at1 f (i : Int)) 1 rfl, e1, e2]
  exact hq
theorem wr_dir {s : ByteArray} {i : Nat} {c : UInt8} (hb : f.size ≤ 1000000000) (hi : i + 1 < f.size) (hx : f[i]? = some 37) (hc : f[i + 1]? = some c) (hk : dir1Ok Y M D ho mi S W J n c = true) (hs : s.size + (dir1F Y M D ho mi S W J n c).size ≤ 1000000000) {Q : AExit → St → Prop} (hq : Q .normal (wrSt Y M D ho mi S W J n f (s ++ dir1F Y M D ho mi S W J n c) (i + 2))) : Tr (withFns cx0 laV lpV) 12 68 wrB (wrSt Y M D ho mi S W J n f s i) Q := by
 have e2 : wrNx (i : Int) = ((i + 1 : Nat) : Int) := wrNx_eq i (by omega)
 have e3 : wrNx (wrNx (i : Int)) = ((i + 2 : Nat) : Int) := by rw [e2]; exact wrNx_eq (i + 1) (by omega)
 have e4 : IntKind.i64.wrap ((i : Int) + 1) = ((i + 1 : Nat) : Int) := e2
 have e5 : atI f (wrNx (i : Int)) = c := by rw [e2]; exact atI_eq hc
 have e6 : ((f[(IntKind.i64.wrap ((i : Int) + 1)).toNat]?).getD 0) = c := e5
 have e7 : IntKind.i64.wrap ((i : Int) + 2) = ((i + 2 : Nat) : Int) := by rw [wrap_id _ (by omega) (by omega)]; omega
 have c5 : ((decide (0 ≤ (IntKind.i64.wrap ((i : Int) + 1)))) && (Option.isSome (GetElem?.getElem? f (Int.toNat (IntKind.i64.wrap ((i : Int) + 1)))))) = true := by rw [e4]; exact c2 hc
 unfold dir1Ok at hk
 simp only [Bool.and_eq_true, decide_eq_true_eq] at hk
 obtain ⟨⟨k1, k2⟩, k3⟩ := hk
 have k2' : (longerF c.toNat).size = 0 := by simpa using k2
 have c6 : ((pieceOkF Y M D ho mi S W J n ((((UInt8.toNat (Option.getD (GetElem?.getElem? f (Int.toNat (IntKind.i64.wrap ((i : Int) + 1)))) 0)) : Nat) : Int))) == true) = true := by
  show (pieceOkF Y M D ho mi S W J n ((((f[(IntKind.i64.wrap ((i : Int) + 1)).toNat]?).getD 0).toNat : Nat) : Int) == true) = true
  rw [e6, k1]; rfl
 have c7 : ((!((ByteArray.toList (longerF ((((UInt8.toNat (Option.getD (GetElem?.getElem? f (Int.toNat (IntKind.i64.wrap ((i : Int) + 1)))) 0)) : Nat) : Int)))) == (ByteArray.toList (ByteArray.mk #[])))) == false) = true := by
  show ((!(ByteArray.toList (longerF ((((f[(IntKind.i64.wrap ((i : Int) + 1)).toNat]?).getD 0).toNat : Nat) : Int)) == ByteArray.toList (ByteArray.mk #[]))) == false) = true
  rw [e6, ba_nil k2', ba_toList, ba_toList]
  rfl
 have hne : (s ++ dir1F Y M D ho mi S W J n c).size ≠ 0 := by rw [ByteArray.size_append]; omega
 unfold wrSt at hq
 rw [if_neg hne] at hq
 unfold wrSt
 cases hB : pieceBF c.toNat with
 | true =>
  have hd : dir1F Y M D ho mi S W J n c = pieceSF Y M D ho mi S W J n c.toNat := by unfold dir1F; rw [if_pos hB]
  rw [hd] at hs hq k3
  have c8 : ((!(pieceBF ((((UInt8.toNat (Option.getD (GetElem?.getElem? f (Int.toNat (IntKind.i64.wrap ((i : Int) + 1)))) 0)) : Nat) : Int)))) == false) = true := by
   show ((!(pieceBF ((((f[(IntKind.i64.wrap ((i : Int) + 1)).toNat]?).getD 0).toNat : Nat) : Int))) == false) = true
   rw [e6, hB]; rfl
  by_cases h0 : s.size = 0
  ·rw [if_pos h0]
   refine wr0_dir Y M D ho mi S W J n f i (c1 (by omega)) (c2 hx) (c3n hx) (c4n hi hb) c5 c6 c7 c8 (by rw [e5]; exact new_text _ k3 (by omega)) ?_
   rw [post0 Y M D ho mi S W J n f _ _ _ _ rfl, e5, e3]
   have := ba_nil h0
   subst this
   rw [ByteArray.empty_append] at hq
   exact hq
  ·rw [if_neg h0]
   refine wr1_dir Y M D ho mi S W J n f i s (c1 (by omega)) (c2 hx) (c3n hx) (c4n hi hb) c5 c6 c7 c8 (by rw [e5]; exact grow_text Y M D ho mi S W J s _ k3 hs) ?_
   rw [post1 Y M D ho mi S W J n f _ _ s _ _ rfl, e5, e3]
   exact hq
 | false =>
  have hd : dir1F Y M D ho mi S W J n c = ⟨#[37, c]⟩ := by unfold dir1F; rw [if_neg (by rw [hB]; simp)]
  have hX : f.extract (i : Int).toNat (IntKind.i64.wrap ((i : Int) + 2)).toNat = ⟨#[37, c]⟩ := by
   rw [e7]
   show f.extract i (i + 2) = _
   exact extract_two hi hx hc
  rw [hd] at hs hq k3
  have c8 : ((!(pieceBF ((((UInt8.toNat (Option.getD (GetElem?.getElem? f (Int.toNat (IntKind.i64.wrap ((i : Int) + 1)))) 0)) : Nat) : Int)))) == true) = true := by
   show ((!(pieceBF ((((f[(IntKind.i64.wrap ((i : Int) + 1)).toNat]?).getD 0).toNat : Nat) : Int))) == true) = true
   rw [e6, hB]; rfl
  have c9 : (((decide (0 ≤ (IntKind.i64.wrap ((i : Int) + 2)))) && (decide ((IntKind.i64.wrap ((i : Int) + 2)) ≤ ((((ByteArray.size f) : Nat) : Int))))) && ((decide (0 ≤ (i : Int))) && (decide ((i : Int) ≤ ((((Int.toNat (IntKind.i64.wrap ((i : Int) + 2))) : Nat) : Int)))))) = true := by
   rw [e7]
   simp only [Bool.and_eq_true, decide_eq_true_eq]
   omega
  by_cases h0 : s.size = 0
  ·rw [if_pos h0]
   refine wr0_not Y M D ho mi S W J n f i (c1 (by omega)) (c2 hx) (c3n hx) (c4n hi hb) c5 c6 c7 c8 c9 (by rw [hX]; exact new_text _ k3 (by omega)) ?_
   rw [post0 Y M D ho mi S W J n f _ _ _ _ rfl, hX, e3]
   have := ba_nil h0
   subst this
   rw [ByteArray.empty_append] at hq
   exact hq
  ·rw [if_neg h0]
   refine wr1_not Y M D ho mi S W J n f i s (c1 (by omega)) (c2 hx) (c3n hx) (c4n hi hb) c5 c6 c7 c8 c9 (by rw [hX]; exact grow_text Y M D ho mi S W J s _ k3 hs) ?_
   rw [post1 Y M D ho mi S W J n f _ _ s _ _ rfl, hX, e3]
   exact hq
def wrI (tot : ByteArray) (m : Nat) (st : St) : Prop := ∃ (i : Nat) (s : ByteArray), st = wrSt Y M D ho mi S W J n f s i ∧ i ≤ f.size ∧ s ++ wrL (dir1F Y M D ho mi S W J n) (f.data.toList.drop i) = tot ∧ wrK (dir1Ok Y M D ho mi S W J n) (f.data.toList.drop i) = true ∧ m = f.size - i
theorem wr_loop (tot : ByteArray) (hb : f.size ≤ 1000000000) (ht : tot.size ≤ 1000000000) (hw : wrL (dir1F Y M D ho mi S W J n) f.data.toList = tot) (hk : wrK (dir1Ok Y M D ho mi S W J n) f.data.toList = true) :
  Tr (withFns cx0 laV lpV) 12 68 (.loop wrB) (wr0 Y M D ho mi S W J n f 0) fun e s => e = .exit 0 ∧ s = wrSt Y M D ho mi S W J n f tot f.size := by
 refine Tr.loop (wrI (f := f) Y M D ho mi S W J n tot) ?_ (m := f.size - 0) ⟨0, ByteArray.empty, rfl, by omega, by rw [ByteArray.empty_append]; exact hw, hk, rfl⟩
 rintro m st ⟨i, s, rfl, hi, hs, hk, rfl⟩
 cases hd : f.data.toList.drop i with
 | nil =>
  have hl : f.size ≤ i := by
   have := congrArg List.length hd
   simp only [List.length_drop, List.length_nil, len_list] at this
   omega
  have hie : i = f.size := by omega
  subst hie
  rw [hd] at hs
  have hs' : s = tot := by rw [← hs]; exact ByteArray.append_empty.symm
  subst hs'
  unfold wrSt
  by_cases h0 : s.size = 0
  ·rw [if_pos h0]
   exact wr0_out Y M D ho mi S W J n f _ (c1n hl) ⟨rfl, rfl⟩
  ·rw [if_neg h0]
   exact wr1_out Y M D ho mi S W J n f _ s (c1n hl) ⟨rfl, rfl⟩
 | cons x r =>
  obtain ⟨hx, hr, hlt⟩ := drop_cons hd
  rw [len_list] at hlt
  rw [← at_list] at hx
  rw [hd] at hs hk
  have plain : x ≠ 37 ∨ i + 1 = f.size → wrL (dir1F Y M D ho mi S W J n) (x :: r) = ⟨#[x]⟩ ++ wrL (dir1F Y M D ho mi S W J n) r := by
   intro h
   cases r with
   | nil => exact ByteArray.append_empty.symm
   | cons c r2 =>
    have h37 : x ≠ 37 := by
     rcases h with h | h
     ·exact h
     ·have := congrArg List.length hr
      simp only [List.length_drop, List.length_cons, len_list] at this
      omega
    simp only [wrL, if_neg h37]
  have plainK : x ≠ 37 ∨ i + 1 = f.size → wrK (dir1Ok Y M D ho mi S W J n) r = true := by
   intro h
   cases r with
   | nil => rfl
   | cons c r2 =>
    have h37 : x ≠ 37 := by
     rcases h with h | h
     ·exact h
     ·have := congrArg List.length hr
      simp only [List.length_drop, List.length_cons, len_list] at this
      omega
    simpa only [wrK, if_neg h37] using hk
  have next : x ≠ 37 ∨ i + 1 = f.size → ∃ m', m' < f.size - i ∧ wrI (f := f) Y M D ho mi S W J n tot m' (wrSt Y M D ho mi S W J n f (s ++ ⟨#[x]⟩) (i + 1)) := by
   intro h
   refine ⟨f.size - (i + 1), by omega, i + 1, s ++ ⟨#[x]⟩, rfl, by omega, ?_, by rw [hr]; exact plainK h, rfl⟩
   rw [hr, ByteArray.append_assoc, ← plain h]
   exact hs
  have sz : x ≠ 37 ∨ i + 1 = f.size → s.size + 1 ≤ 1000000000 := by
   intro h
   rw [plain h] at hs
   have := congrArg ByteArray.size hs
   rw [ByteArray.size_append, ByteArray.size_append] at this
   have e : (⟨#[x]⟩ : ByteArray).size = 1 := rfl
   omega
  by_cases h37 : x = 37
  ·subst h37
   by_cases hl : i + 1 = f.size
   ·exact wr_last Y M D ho mi S W J n hb hl hx (sz (.inr hl)) (next (.inr hl))
   ·cases r with
    | nil =>
     have := congrArg List.length hr
     simp only [List.length_drop, List.length_nil, len_list] at this
     omega
    | cons c r2 =>
     obtain ⟨hc, hr2, hlt2⟩ := drop_cons hr
     rw [len_list] at hlt2
     rw [← at_list] at hc
     have hw2 : wrL (dir1F Y M D ho mi S W J n) (37 :: c :: r2) = dir1F Y M D ho mi S W J n c ++ wrL (dir1F Y M D ho mi S W J n) r2 := by simp only [wrL, if_true]
     have hk2 : dir1Ok Y M D ho mi S W J n c = true ∧ wrK (dir1Ok Y M D ho mi S W J n) r2 = true := by simpa only [wrK, if_true, Bool.and_eq_true] using hk
     rw [hw2] at hs
     have hsz : s.size + (dir1F Y M D ho mi S W J n c).size ≤ 1000000000 := by
      have := congrArg ByteArray.size hs
      rw [ByteArray.size_append, ByteArray.size_append] at this
      omega
     refine wr_dir Y M D ho mi S W J n hb hlt2 hx hc hk2.1 hsz ⟨f.size - (i + 2), by omega, i + 2, s ++ dir1F Y M D ho mi S W J n c, rfl, by omega, ?_, by rw [hr2]; exact hk2.2, rfl⟩
     rw [hr2, ByteArray.append_assoc]
     exact hs
  ·exact wr_plain Y M D ho mi S W J n hb hlt hx h37 (sz (.inl h37)) (next (.inl h37))
theorem wr1_fin (Y M D ho mi : Int) (S : Nat) (W J n : Int) (f : ByteArray) (i : Int) (s : ByteArray) {R : Value → Hp → Nat → Prop} (h1 : ((!(Nat.beq s.size 0)) && strOk (wrHp Y M D ho mi S W J s) 13 0 s.size) = true) (hq : ∀ H nx, R (oneOf [(Value.string (strAt (wrHp Y M D ho mi S W J s) 13 0 s.size))]) H nx) : TrL (withFns cx0 laV lpV) 12 68 ((bodyOf Tryz.f38).drop 4) (wr1 Y M D ho mi S W J n f i s) (fun e s2 => (match e with | .exit _ => False | _ => True) ∧ ∃ l, evResults (withFns cx0 laV lpV) s2.tm s2.H Tryz.f38.results.toList = some l ∧ R (oneOf l) s2.H s2.nx) :=
 TrL.fin (hkW laV lpV) (CxOk.withFns cx_ok laV lpV) (withFns_intr laV_sound lpV_sound) (m := [true]) (bl := [(!(Nat.beq s.size 0)) && strOk (wrHp Y M D ho mi S W J s) 13 0 s.size]) (p := []) (k := 5) (n := 30) (vs := [(Value.string (strAt (wrHp Y M D ho mi S W J s) 13 0 s.size))]) (by kernel_rfl) (by kernel_rfl) (by kernel_rfl) (by kernel_rfl) (by kernel_rfl) (aC h1 aN) hq
def wrF (Y M D ho mi : Int) (S : Nat) (W J n : Int) (f : ByteArray) : ByteArray := wrL (dir1F Y M D ho mi S W J n) f.data.toList
def wrOkF (Y M D ho mi : Int) (S : Nat) (W J n : Int) (f : ByteArray) : Bool := wrK (dir1Ok Y M D ho mi S W J n) f.data.toList && decide (f.size ≤ 1000000000) && decide ((wrF Y M D ho mi S W J n f).size ≤ 1000000000)
theorem wr_tr (f : ByteArray) (hok : wrOkF Y M D ho mi S W J n f = true) :
  Tr (withFns cx0 laV lpV) 12 68 code38 (entry Tryz.f38 #[.agg #[.int .i64 Y, .int .i64 M, .int .i64 D, .int .i64 ho, .int .i64 mi, .float .f64 S, .int .i64 W, .int .i64 J], .int .i64 n, .string f] H0 12) fun x s => (match x with | .exit _ => False | _ => True) ∧ ∃ l, evResults (withFns cx0 laV lpV) s.tm s.H Tryz.f38.results.toList = some l ∧ oneOf l = .string (wrF Y M D ho mi S W J n f) := by
 unfold wrOkF at hok
 simp only [Bool.and_eq_true, decide_eq_true_eq] at hok
 obtain ⟨⟨hk, hb⟩, ht⟩ := hok
 refine Tr.of_spine code38 ?_
 show TrL _ 12 68 (bodyOf Tryz.f38) _ _
 rw [wr_pieces]
 refine wr_in Y M D ho mi S W J n f ?_
 refine Tr.block (wr_loop Y M D ho mi S W J n (wrF Y M D ho mi S W J n f) hb ht rfl hk) ?_ ?_
 ·rintro s1 ⟨_, rfl⟩
  unfold wrSt
  by_cases h0 : (wrF Y M D ho mi S W J n f).size = 0
  ·rw [if_pos h0]
   refine wr0_fin Y M D ho mi S W J n f _ (R := fun v _ _ => v = .string (wrF Y M D ho mi S W J n f)) (fun H nx => ?_)
   show Value.string _ = _
   rw [ba_nil h0]
   rfl
  ·rw [if_neg h0]
   have hst := strAt_row (H := wrHp Y M D ho mi S W J (wrF Y M D ho mi S W J n f)) (b := 13) (ob := mkCells 13 5 1 false (bytesV (wrF Y M D ho mi S W J n f))) (s := wrF Y M D ho mi S W J n f) (by kernel_rfl) rfl
   refine wr1_fin Y M D ho mi S W J n f _ _ (R := fun v _ _ => v = .string (wrF Y M D ho mi S W J n f)) ?_ (fun H nx => ?_)
   ·rw [hst.2]
    cases hz : Nat.beq (wrF Y M D ho mi S W J n f).size 0 with
    | false => rfl
    | true => exact absurd (Nat.eq_of_beq_eq_true hz) h0
   ·show Value.string _ = _
    rw [hst.1]
 ·rintro e s1 ⟨rfl, _⟩ hne
  exact absurd rfl hne
end
def wrVal (args : Array Value) : Option Value := match args.toList with
 | [.agg a0_, .int .i64 n, .string f] => match a0_.toList with | [.int .i64 Y, .int .i64 M, .int .i64 D, .int .i64 ho, .int .i64 mi, .float .f64 S, .int .i64 W, .int .i64 J] => some (.string (wrF Y M D ho mi S W J n f)) | _ => none
 | _ => none
def wrCond (args : Array Value) : Bool := match args.toList with
 | [.agg a0_, .int .i64 n, .string f] => match a0_.toList with | [.int .i64 Y, .int .i64 M, .int .i64 D, .int .i64 ho, .int .i64 mi, .float .f64 S, .int .i64 W, .int .i64 J] => (wrOkF Y M D ho mi S W J n f == true) | _ => false
 | _ => false
def wrA : AFn := { f := 38, val := wrVal, ok := wrCond }
theorem wr_sound : PSound cx0 wrA.pfn := psound_tr laV_sound lpV_sound fun args v h => by
 obtain ⟨hv, hk⟩ := afn_some h
 replace hv : wrVal args = some v := hv
 replace hk : wrCond args = true := hk
 unfold wrVal at hv
 split at hv
 ·rename_i a0_ n f hx
  have ha := args_list hx
  subst ha
  split at hv
  ·rename_i Y M D ho mi S W J hx0
   have ha0 := args_list hx0
   subst ha0
   cases hv
   have hok : wrOkF Y M D ho mi S W J n f = true := by simpa [wrCond] using hk
   exact ⟨rfl, rfl, Tryz.f38, code38, by kernel_rfl, by kernel_rfl, wr_tr Y M D ho mi S W J n f hok⟩
  ·cases hv
 ·cases hv
def laU : List AFn := wrA :: laV
theorem laU_sound : ∀ e ∈ laU, PSound cx0 e.pfn := asound_cons wr_sound laV_sound
end Go.Proofs.YthopphfehgdocaaGreatDoor
