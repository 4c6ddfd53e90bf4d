import Derived.Calls
import Derived.Orders
import Derived.LoopN
import Derived.Below
import Derived.Laws.Cells
import Derived.Laws.IdiomCopy
set_option linter.unusedSimpArgs false
set_option linter.unusedVariables false
namespace Go.Ev
inductive T (α : Type) where
 | nil
 | node (v : Option α) (l r : T α)
def T.get {α : Type} : T α → Nat → Option α
 | .nil, _ => none
 | .node v l r, n =>
  match Nat.beq n 0 with
  | true => v
  | false => match Nat.beq (Nat.mod n 2) 1 with
   | true => l.get (Nat.div n 2)
   | false => r.get (Nat.sub (Nat.div n 2) 1)
def T.split {α : Type} : T α → Option α × T α × T α
 | .nil => (none, .nil, .nil)
 | .node v l r => (v, l, r)
def T.put {α : Type} : Nat → T α → Nat → α → T α
 | 0, t, _, _ => t
 | f + 1, t, n, a =>
  match t.split with
  | (v, l, r) => match Nat.beq n 0 with
   | true => .node (some a) l r
   | false => match Nat.beq (Nat.mod n 2) 1 with
    | true => .node v (T.put f l (Nat.div n 2) a) r
    | false => .node v l (T.put f r (Nat.sub (Nat.div n 2) 1) a)
def T.set {α : Type} (t : T α) (n : Nat) (a : α) : T α := T.put (Nat.add n 1) t n a
def T.setList {α : Type} (t : T α) (i : Nat) : List α → T α
 | [] => t
 | a :: l => T.setList (t.set i a) (Nat.add i 1) l
def T.room {α : Type} : Nat → T α
 | 0 => .nil
 | d + 1 => .node none (T.room d) (T.room d)
inductive AData where
 | cells (n : Nat) (cs : T Value)
 | map (es : List MapEntry) (clock : Nat)
 | strIter (s : ByteArray) (pos : Nat)
 | mapIter (m : Option Nat) (since : Nat) (seen : Array Nat) (stepped : Nat)
structure AObj where
 dat : Option AData
 elem : TypeId
 esz : Nat
 exact : Bool
 root : Nat
 kin : List Nat
abbrev Hp := T AObj
structure Cx where
 P : Program
 lo : Nat
 ng : Nat
 info : TypeId → Option TypeInfo
 body : FuncId → Option Func
 intr : FuncId → Option (Array Value → Hp → Nat → Option (Value × Hp × Nat))
 Wp : Nat → World → Prop := fun _ _ => True
 asrt : FuncId → Option (Array Value → Hp → Nat → Option (Value × Hp × Nat × Bool)) := fun _ => none
def Cx.und (cx : Cx) (t : TypeId) : Option TypeDesc :=
 match cx.info t with
 | none => none
 | some i => match i.desc with
  | .named _ u => match cx.info u with
   | none => none
   | some j => some j.desc
  | d => some d
def Cx.agg (cx : Cx) (t : TypeId) : Option Bool :=
 match cx.und t with
 | none => none
 | some (.struct _) => some true
 | some (.array _ _) => some true
 | some _ => some false
def closed : Nat → Value → Bool
 | 0, _ => false
 | d + 1, v => match v with
  | .bool _ | .int _ _ | .float _ _ | .complex _ _ _ | .string _ | .pointer none | .slice none _ _ | .map none | .chan none | .nilFunc | .nilIface => true
  | .func _ a b => a.toList.all (closed d) && b.toList.all (closed d)
  | .iface _ v => closed d v
  | .agg a => a.toList.all (closed d)
  | .tuple a => a.toList.all (closed d)
  | _ => false
def shut (v : Value) : Bool := closed 60 v
def pureRun {α : Type} (P : Program) : Sem α → Option α
 | .pure a => some a
 | .program k => pureRun P (k P)
 | .mark _ k => pureRun P k
 | .choose q k => if q.forced then pureRun P (k 0) else none
 | _ => none
def readN (cs : T Value) (o : Nat) : Nat → Option (List Value)
 | 0 => some []
 | n + 1 => match cs.get o with
  | none => none
  | some v => match readN cs (Nat.add o 1) n with
   | none => none
   | some l => some (v :: l)
def loadN (H : Hp) (b o n : Nat) : Option (List Value) :=
 match H.get b with
 | none => none
 | some ob => match ob.dat with
  | some (.cells m cs) => if Nat.ble (Nat.add o n) m then readN cs o n else none
  | _ => none
def killAll (H : Hp) (keep : Nat → Bool) : List Nat → Option Hp
 | [] => some H
 | m :: r => match keep m with
  | true => killAll H keep r
  | false => match H.get m with
   | none => none
   | some ob => killAll (H.set m { ob with dat := none }) keep r
def isSingle (b : Nat) : List Nat → Bool
 | [m] => Nat.beq m b
 | _ => false
def oneCell : Value → Bool
 | .agg _ | .tuple _ => false
 | _ => true
def alone (H : Hp) (b : Nat) (ob : AObj) : Option Hp :=
 match H.get ob.root with
 | none => none
 | some ro => match isSingle b ro.kin with
  | true => some H
  | false => match killAll H (fun m => Nat.beq m b) ro.kin with
   | none => none
   | some H2 => match H2.get ob.root with
    | none => none
    | some ro2 => some (H2.set ob.root { ro2 with kin := [b] })
def setDat (cx : Cx) (H : Hp) (b : Nat) (d : AData) : Option Hp :=
 match Nat.ble cx.lo b with
 | false => none
 | true => match H.get b with
  | none => none
  | some ob => match ob.dat with
   | none => none
   | some _ => match alone H b ob with
    | none => none
    | some H3 => match H3.get b with
     | none => none
     | some o3 => some (H3.set b { o3 with dat := some d })
def storeN (cx : Cx) (H : Hp) (b o : Nat) (vs : List Value) : Option Hp :=
 match H.get b with
 | none => none
 | some ob => match ob.dat with
  | some (.cells m cs) => match Nat.ble (Nat.add o vs.length) m && vs.all oneCell with
   | false => none
   | true => setDat cx H b (.cells m (cs.setList o vs))
  | _ => none
def mkCells (id : Nat) (elem : TypeId) (esz : Nat) (exact : Bool) (vs : List Value) : AObj :=
 { dat := some (.cells vs.length (T.setList .nil 0 vs)), elem, esz, exact, root := id, kin := [id] }
inductive ANext where
 | val (v : Value)
 | skip
 | enter (f : FuncId) (args : Array Value)
abbrev Res := Option (ANext × Hp)
def rval (v : Value) (H : Hp) : Res := some (.val v, H)
def asPtr : Value → Option (Nat × Nat)
 | .pointer (some ⟨b, o, none⟩) => some (b, o)
 | _ => none
def addrV (b o : Nat) : Value := .pointer (some ⟨b, o, none⟩)
def isSmallInt : Value → Option Nat
 | .int _ n => match n with
  | .ofNat m => some m
  | .negSucc _ => none
 | _ => none
def aLoad (cx : Cx) (t : TypeId) (p : Value) (H : Hp) : Res :=
 match asPtr p with
 | none => none
 | some (b, o) => match cx.agg t with
  | none => none
  | some true => match cx.info t with
   | none => none
   | some i => match loadN H b o i.size with
    | none => none
    | some l => rval (.agg l.toArray) H
  | some false => match loadN H b o 1 with
   | some [v] => rval v H
   | _ => none
def aStore (cx : Cx) (t : TypeId) (p v : Value) (H : Hp) : Res :=
 match asPtr p with
 | none => none
 | some (b, o) => match cx.info t with
  | none => none
  | some i => match Nat.beq v.cells.size i.size && v.cells.toList.all oneCell with
   | false => none
   | true => match storeN cx H b o v.cells.toList with
    | none => none
    | some H' => some (.skip, H')
def aNew (id : Nat) (elem : TypeId) (esz : Nat) (vs : List Value) (H : Hp) : Res :=
 rval (addrV id 0) (H.set id (mkCells id elem esz true vs))
def aAlloc (cx : Cx) (elem : TypeId) (id : Nat) (H : Hp) : Res :=
 match cx.info elem with
 | none => none
 | some i => match i.zero with
  | none => none
  | some z => aNew id elem i.size z.cells.toList H
def aBox (cx : Cx) (elem : TypeId) (v : Value) (id : Nat) (H : Hp) : Res :=
 match cx.info elem with
 | none => none
 | some i => aNew id elem i.size v.cells.toList H
def fieldPlaces (cx : Cx) : List Field → Option (List (Nat × Nat))
 | [] => some []
 | f :: r => match cx.info f.type with
  | none => none
  | some i => match fieldPlaces cx r with
   | none => none
   | some l => some ((f.offset, i.size) :: l)
def aBuild (cx : Cx) (t : TypeId) (parts : List (Nat × Value)) (H : Hp) : Res :=
 match cx.info t with
 | none => none
 | some i => match i.zero with
  | none => none
  | some z => match cx.und t with
   | some (.struct fields) => match fieldPlaces cx fields.toList with
    | none => none
    | some places => match Instr.fill (places.toArray[·]?) z.cells parts with
     | none => none
     | some cells => rval (.agg cells) H
   | some (.array _ elem) => match cx.info elem with
    | none => none
    | some j => match Instr.fill (fun k => some (k * j.size, j.size)) z.cells parts with
     | none => none
     | some cells => rval (.agg cells) H
   | _ => none
def aBuildSlice (cx : Cx) (t : TypeId) (len : Nat) (parts : List (Nat × Value)) (id : Nat) (H : Hp) : Res :=
 match cx.und t with
 | some (.slice elem) => match cx.info elem with
  | none => none
  | some i => match i.zero with
   | none => none
   | some z => match Nat.ble (len * i.size) 1048576 && !Nat.beq (len * i.size) 0 && Nat.beq z.cells.size i.size with
    | false => none
    | true => match Instr.fill (fun k => some (k * i.size, i.size)) ((Array.range (len * i.size)).map fun k => z.cells[k % z.cells.size]!) parts with
     | none => none
     | some cells => rval (.slice (some ⟨id, 0, none⟩) len len) (H.set id (mkCells id elem i.size true cells.toList))
 | _ => none
def aPart (cx : Cx) (t : TypeId) (cs : Array Value) (off : Nat) (H : Hp) : Res :=
 match cx.agg t with
 | none => none
 | some true => match cx.info t with
  | none => none
  | some i => rval (.agg (cs.extract off (off + i.size))) H
 | some false => match cs[off]? with
  | none => none
  | some v => rval v H
def aField (cx : Cx) (t : TypeId) (x : Value) (k : Nat) (H : Hp) : Res :=
 match cx.und t, x with
 | some (.struct fields), .agg cs => match fields[k]? with
  | none => none
  | some f => aPart cx f.type cs f.offset H
 | _, _ => none
def aIndex (cx : Cx) (t : TypeId) (x ix : Value) (H : Hp) : Res :=
 match cx.und t, x, isSmallInt ix with
 | some (.array len elem), .agg cs, some i => match cx.info elem with
  | none => none
  | some j => if i < len then aPart cx elem cs (i * j.size) H else none
 | _, _, _ => none
def aFieldAddr (cx : Cx) (s : TypeId) (p : Value) (k : Nat) (H : Hp) : Res :=
 match cx.und s, asPtr p with
 | some (.struct fields), some (b, o) => match fields[k]? with
  | none => none
  | some f => match cx.info f.type with
   | none => none
   | some i => match Nat.beq i.size 0 with
    | true => none
    | false => rval (addrV b (Nat.add o f.offset)) H
 | _, _ => none
def aIndexAddr (cx : Cx) (t : TypeId) (x ix : Value) (H : Hp) : Res :=
 match cx.und t, x, isSmallInt ix with
 | some (.array len elem), .pointer (some ⟨b, o, none⟩), some i => match cx.info elem with
  | none => none
  | some j => if i < len then rval (addrV b (Nat.add o (Nat.mul i j.size))) H else none
 | some (.slice elem), .slice (some ⟨b, o, none⟩) len _, some i => match cx.info elem with
  | none => none
  | some j => if i < len then rval (addrV b (Nat.add o (Nat.mul i j.size))) H else none
 | _, _, _ => none
def optInt : Option Value → Option (Option Nat)
 | none => some none
 | some v => match isSmallInt v with
  | none => none
  | some n => some (some n)
def hiOf (len : Nat) : Option Nat → Option Nat → Option Nat
 | some h, _ => some h
 | none, none => some len
 | none, some _ => none
def aBounds (len cap : Nat) (lo hi mx : Option Nat) : Option (Nat × Nat × Nat) :=
 match hiOf len hi mx with
 | none => none
 | some h => if h ≤ mx.getD cap ∧ lo.getD 0 ≤ h ∧ mx.getD cap ≤ cap then some (lo.getD 0, h, mx.getD cap) else none
def sized (H : Hp) (b n : Nat) : Bool :=
 match H.get b with
 | none => false
 | some ob => match ob.dat with
  | some (.cells _ _) => ob.exact || Nat.beq ob.esz n
  | _ => false
def exactly (H : Hp) (b : Nat) : Bool :=
 match H.get b with
 | none => false
 | some ob => match ob.dat with
  | some (.cells _ _) => ob.exact
  | _ => false
def aSlice (cx : Cx) (t : TypeId) (x : Value) (lo hi mx : Option Value) (H : Hp) : Res :=
 match optInt lo, optInt hi, optInt mx with
 | some l, some h, some m =>
  match cx.und t, x with
  | some (.slice elem), .slice (some ⟨b, o, none⟩) len cap => match cx.info elem, aBounds len cap l h m with
   | some j, some (l, h, m) => match sized H b j.size with
    | true => rval (.slice (some ⟨b, Nat.add o (Nat.mul l j.size), none⟩) (Nat.sub h l) (Nat.sub m l)) H
    | false => none
   | _, _ => none
  | some (.array n elem), .pointer (some ⟨b, o, none⟩) => match cx.info elem, aBounds n n l h m with
   | some j, some (l, h, m) => match exactly H b with
    | true => rval (.slice (some ⟨b, Nat.add o (Nat.mul l j.size), none⟩) (Nat.sub h l) (Nat.sub m l)) H
    | false => none
   | _, _ => none
  | _, _ => none
 | _, _, _ => none
def aMakeSlice (cx : Cx) (t : TypeId) (len cap : Value) (id : Nat) (H : Hp) : Res :=
 match cx.und t, isSmallInt len, isSmallInt cap with
 | some (.slice elem), some l, some c => match cx.info elem with
  | none => none
  | some i => match i.zero with
   | none => none
   | some z =>
    if l ≤ c ∧ c * i.bytes ≤ 1099511627776 ∧ c ≤ 1048576 ∧ z.cells.size = i.size then
     rval (.slice (some ⟨id, 0, none⟩) l c) (H.set id (mkCells id elem i.size true ((Array.range (c * i.size)).map fun k => z.cells[k % z.cells.size]!).toList))
    else none
 | _, _, _ => none
def aMakeMap (id : Nat) (H : Hp) : Res :=
 rval (.map (some id)) (H.set id { dat := some (.map [] 0), elem := 0, esz := 0, exact := true, root := id, kin := [id] })
def assertHolds (v : Value) (commaOk : Bool) (H : Hp) : Res := rval (if commaOk then .tuple #[v, .bool true] else v) H
def assertFails (cx : Cx) (asserted : TypeId) (commaOk : Bool) (H : Hp) : Res :=
 match commaOk, cx.info asserted with
 | true, some i => match i.zero with
  | some z => rval (.tuple #[z, .bool false]) H
  | none => none
 | _, _ => none
def aTypeAssert (cx : Cx) (x : Value) (asserted : TypeId) (commaOk : Bool) (H : Hp) : Res :=
 match cx.und asserted, x with
 | some (.interface want), .iface t _ => match cx.info t with
  | none => none
  | some i => match Instr.missingMethod want i.methods with
   | none => assertHolds x commaOk H
   | some _ => assertFails cx asserted commaOk H
 | some (.interface _), _ => none
 | some _, .iface t v => if t = asserted then assertHolds v commaOk H else assertFails cx asserted commaOk H
 | _, _ => none
def nilEq : Value → Value → Option Bool
 | .pointer none, .pointer b | .pointer b, .pointer none => some b.isNone
 | .pointer (some a), .pointer (some b) => if Nat.beq a.block b.block && a.spot.isNone && b.spot.isNone then some (Nat.beq a.off b.off) else none
 | .slice none _ _, .slice b _ _ | .slice b _ _, .slice none _ _ => some b.isNone
 | .map none, .map b | .map b, .map none => some b.isNone
 | .nilFunc, .func _ _ _ | .func _ _ _, .nilFunc => some false
 | .nilIface, .iface _ _ | .iface _ _, .nilIface => some false
 | _, _ => none
def aEq (cx : Cx) (neq : Bool) (t : TypeId) (x y : Value) (H : Hp) : Res :=
 match nilEq x y with
 | none => none
 | some b => match cx.und t, x with
  | some (.pointer e), .pointer _ => match cx.info e with
   | none => none
   | some i => if i.size = 0 then none else rval (.bool (b != neq)) H
  | some (.slice _), .slice _ _ _ => rval (.bool (b != neq)) H
  | some (.map _ _), .map _ => rval (.bool (b != neq)) H
  | some (.func _ _ _), .func _ _ _ => rval (.bool (b != neq)) H
  | some (.func _ _ _), .nilFunc => rval (.bool (b != neq)) H
  | some (.interface _), .iface _ _ => rval (.bool (b != neq)) H
  | some (.interface _), .nilIface => rval (.bool (b != neq)) H
  | _, _ => none
def keySame (cx : Cx) (kt : TypeId) (kd : TypeDesc) (k key : Value) : Option Bool :=
 match Instr.sameNow kd k key with
 | some b => some b
 | none => pureRun cx.P (Op.equal kt k key)
def findIdx (cx : Cx) (kt : TypeId) (kd : TypeDesc) (k : Value) : List MapEntry → Nat → Option (Option (Nat × MapEntry))
 | [], _ => some none
 | e :: es, i => match shut e.key with
  | false => none
  | true => match keySame cx kt kd k e.key with
   | none => none
   | some true => some (some (i, e))
   | some false => findIdx cx kt kd k es (i + 1)
def getMap (H : Hp) (m : Nat) : Option (List MapEntry × Nat) :=
 match H.get m with
 | none => none
 | some ob => match ob.dat with
  | some (.map es clock) => some (es, clock)
  | _ => none
def mapEs (x : Value) (H : Hp) : Option (List MapEntry) :=
 match x with
 | .map none => some []
 | .map (some m) => match getMap H m with
  | none => none
  | some (es, _) => some es
 | _ => none
def aLookup (cx : Cx) (t : TypeId) (x k : Value) (commaOk : Bool) (H : Hp) : Res :=
 match cx.und t with
 | some (.map kt elem) => match cx.und kt, shut k with
  | some kd, true =>
   match (mapEs x H) with
   | none => none
   | some es => match pureRun cx.P (Instr.checkKey es.isEmpty 10000 kt k) with
    | none => none
    | some _ => match findIdx cx kt kd k es 0 with
     | none => none
     | some (some (_, e)) => rval (if commaOk then .tuple #[e.val, .bool true] else e.val) H
     | some none => match cx.info elem with
      | none => none
      | some i => match i.zero with
       | none => none
       | some z => rval (if commaOk then .tuple #[z, .bool false] else z) H
  | _, _ => none
 | _ => none
def skipTo : Option Hp → Res
 | none => none
 | some H => some (.skip, H)
def valTo (v : Value) : Option Hp → Res
 | none => none
 | some H => some (.val v, H)
def aMapUpdate (cx : Cx) (t : TypeId) (x k v : Value) (H : Hp) : Res :=
 match cx.und t, x with
 | some (.map kt _), .map (some m) => match cx.und kt, shut k with
  | some kd, true => match getMap H m with
   | none => none
   | some (es, clock) => match pureRun cx.P (Instr.checkKey false 10000 kt k) with
    | none => none
    | some _ => match findIdx cx kt kd k es 0 with
     | none => none
     | some (some (i, e)) => match Instr.sameBits 10000 e.key k with
      | false => none
      | true => skipTo (setDat cx H m (.map (es.modify i fun e => { e with key := k, val := v }) clock))
     | some none => skipTo (setDat cx H m (.map (es ++ [{ key := k, val := v, born := clock }]) (clock + 1)))
  | _, _ => none
 | _, _ => none
def aMapEntry (cx : Cx) (t : TypeId) (x k : Value) (H : Hp) : Res :=
 match cx.und t, x with
 | some (.map kt elem), .map (some m) => match cx.und kt, shut k with
  | some kd, true => match getMap H m with
   | none => none
   | some (es, clock) => match pureRun cx.P (Instr.checkKey false 10000 kt k) with
    | none => none
    | some _ => match findIdx cx kt kd k es 0 with
     | none => none
     | some (some (i, e)) => match Instr.sameBits 10000 e.key k with
      | false => none
      | true => valTo (.tuple #[e.val, goInt e.born]) (setDat cx H m (.map (es.modify i fun e => { e with key := k }) clock))
     | some none => match cx.info elem with
      | none => none
      | some i => match i.zero with
       | none => none
       | some z => match shut z with
        | false => none
        | true => valTo (.tuple #[z, goInt clock]) (setDat cx H m (.map (es ++ [{ key := k, val := z, born := clock }]) (clock + 1)))
  | _, _ => none
 | _, _ => none
def aEntryStore (cx : Cx) (x stamp v : Value) (H : Hp) : Res :=
 match x, isSmallInt stamp with
 | .map (some m), some n => match getMap H m with
  | none => none
  | some (es, clock) => match es.findIdx? (fun e => (e.born : Int) == (n : Int)) with
   | none => none
   | some i => skipTo (setDat cx H m (.map (es.modify i fun e => { e with val := v }) clock))
 | _, _ => none
def aRange (cx : Cx) (t : TypeId) (x : Value) (id : Nat) (H : Hp) : Res :=
 let mk (d : AData) : Res := rval (addrV id 0) (H.set id { dat := some d, elem := 0, esz := 0, exact := true, root := id, kin := [id] })
 match cx.und t, x with
 | some .string, .string s => mk (.strIter s 0)
 | some (.map _ _), .map none => mk (.mapIter none 0 #[] 0)
 | some (.map _ _), .map (some m) => match getMap H m with
  | none => none
  | some (_, clock) => mk (.mapIter (some m) clock #[] clock)
 | _, _ => none
def aNextOp (cx : Cx) (it : Value) (isString : Bool) (H : Hp) : Res :=
 match it with
 | .pointer (some ⟨r, 0, none⟩) => match H.get r with
  | none => none
  | some ob => match ob.dat, isString with
   | some (.strIter s pos), true =>
    if pos < s.size then
     let c := Utf8.decode s pos
     valTo (.tuple #[.bool true, goInt pos, .int .i32 c.1]) (setDat cx H r (.strIter s (pos + c.2)))
    else rval (.tuple #[.bool false]) H
   | some (.mapIter none _ _ _), false => rval (.tuple #[.bool false]) H
   | some (.mapIter (some m) since seen last), false => match getMap H m with
    | none => none
    | some (es, clock) =>
     if !seen.isEmpty && !es.isEmpty && es.all (fun e => decide (e.born ≥ last)) then none else
     match es.filter fun e => !seen.contains e.born with
     | [] => rval (.tuple #[.bool false]) H
     | [e] => if e.born < since then valTo (.tuple #[.bool true, e.key, e.val]) (setDat cx H r (.mapIter (some m) since (seen.push e.born) clock)) else none
     | _ => none
   | _, _ => none
 | _ => none
def srcCells (size n : Nat) (x : Value) (H : Hp) : Option (List Value) :=
 match x with
 | .slice none _ _ => some []
 | .slice (some ⟨b, o, none⟩) _ _ => match Nat.beq (Nat.mul n size) 0 with
  | true => some []
  | false => loadN H b o (Nat.mul n size)
 | .string s => some (((s.extract 0 n).data.map fun b => Value.int .u8 b.toNat).toList)
 | _ => none
def lenV : Value → Option Nat
 | .slice _ n _ => some n
 | .string s => some s.size
 | _ => none
def fresh (id : Nat) (elem : TypeId) (size need : Nat) (cells : List Value) (H : Hp) : Res :=
 rval (.slice (some ⟨id, 0, none⟩) need need) (H.set id (mkCells id elem size false cells))
def grownObj (elem : TypeId) (size r n : Nat) (cs : T Value) : AObj := { dat := some (.cells n cs), elem, esz := size, exact := false, root := r, kin := [] }
def growKin (H : Hp) (r id : Nat) (keep : Nat → Bool) : Option Hp :=
 match H.get r with
 | none => none
 | some ro => match killAll H keep ro.kin with
  | none => none
  | some H1 => match H1.get r with
   | none => none
   | some ro1 => some (H1.set r { ro1 with kin := id :: ro1.kin.filter keep })
def notInt (cx : Cx) (t : Option TypeId) : Bool :=
 match t with
 | none => true
 | some t => match cx.und t with
  | none => false
  | some (.int _) => false
  | some _ => true
def zeroFits (i : TypeInfo) : Bool :=
 match i.zero with
 | none => false
 | some z => Nat.beq z.cells.size i.size
def aAppendIn (cx : Cx) (base : Option Addr) (sLen sCap n size : Nat) (new : List Value) (H : Hp) : Res :=
 match base, new with
 | none, [] => rval (.slice base (Nat.add sLen n) sCap) H
 | some _, [] => rval (.slice base (Nat.add sLen n) sCap) H
 | some ⟨b, o, none⟩, v :: vs => match storeN cx H b (Nat.add o (Nat.mul sLen size)) (v :: vs) with
  | none => none
  | some H' => rval (.slice base (Nat.add sLen n) sCap) H'
 | _, _ => none
def aAppendMaybe (cx : Cx) (elem : TypeId) (b o k size need id : Nat) (ob : AObj) (nb : Nat) (cs : T Value) (old new : List Value) (H : Hp) : Res :=
 match Nat.beq ob.esz size && Nat.ble cx.lo b && Nat.beq ob.elem elem with
 | false => none
 | true => match Nat.beq (Nat.add o k) nb with
  | true => match growKin H ob.root id (fun m => Nat.ble m b) with
   | none => none
   | some H2 => rval (.slice (some ⟨id, 0, none⟩) need need) (H2.set id (grownObj elem size ob.root (Nat.add k new.length) (match Nat.beq o 0 with
    | true => cs.setList k new
    | false => T.setList .nil 0 (old ++ new))))
  | false => match growKin H ob.root id (fun _ => false) with
   | none => none
   | some H2 => rval (.slice (some ⟨id, 0, none⟩) need need) (H2.set id (grownObj elem size ob.root (Nat.add k new.length) (T.setList .nil 0 (old ++ new))))
def loadOld (H : Hp) (b o k : Nat) : Option (List Value) := match Nat.beq k 0 with
 | true => some []
 | false => loadN H b o k
def aAppendOut (cx : Cx) (elem : TypeId) (base : Option Addr) (sLen n size : Nat) (new : List Value) (id : Nat) (H : Hp) : Res :=
 match base with
 | none => match Nat.beq sLen 0 with
  | true => fresh id elem size (Nat.add sLen n) new H
  | false => none
 | some ⟨b, o, none⟩ => match H.get b with
  | none => none
  | some ob => match ob.dat with
   | some (.cells nb cs) => match loadOld H b o (Nat.mul sLen size) with
    | none => none
    | some old => match ob.exact with
     | true => fresh id elem size (Nat.add sLen n) (old ++ new) H
     | false => aAppendMaybe cx elem b o (Nat.mul sLen size) size (Nat.add sLen n) id ob nb cs old new H
   | _ => none
 | _ => none
def aAppend (cx : Cx) (argTypes : Array TypeId) (args : Array Value) (id : Nat) (H : Hp) : Res :=
 match argTypes[0]?, (args[0]? : Option Value), args[1]? with
 | some st, some (.slice base sLen sCap), some x =>
  match cx.und st with
  | some (.slice elem) => match cx.info elem, lenV x with
   | some ei, some n => match notInt cx argTypes[1]? && zeroFits ei with
    | false => none
    | true => match srcCells ei.size n x H with
     | none => none
     | some new => match Nat.beq new.length (Nat.mul n ei.size) && new.all oneCell with
      | false => none
      | true => match Nat.ble (Nat.add sLen n) sCap with
       | true => aAppendIn cx base sLen sCap n ei.size new H
       | false => match Nat.ble (Nat.mul (Nat.add (Nat.mul 2 (Nat.add sLen n)) 1000) ei.bytes) 140737488355328 && Nat.ble 1 ei.bytes && Nat.ble (Nat.add sLen n) 4611686018427387904 with
        | false => none
        | true => aAppendOut cx elem base sLen n ei.size new id H
   | _, _ => none
  | _ => none
 | _, _, _ => none
def aCopy (cx : Cx) (argTypes : Array TypeId) (args : Array Value) (H : Hp) : Res :=
 match argTypes[0]?, (args[0]? : Option Value), args[1]? with
 | some dt, some (.slice base dLen _), some x =>
  match cx.und dt with
  | some (.slice elem) => match cx.info elem, lenV x with
   | some ei, some sl =>
    let n := Nat.min sl dLen
    match srcCells ei.size n x H with
    | none => none
    | some [] => rval (goInt n) H
    | some new => match base with
     | some ⟨b, o, none⟩ => match storeN cx H b o new with
      | none => none
      | some H' => rval (goInt n) H'
     | _ => none
   | _, _ => none
  | _ => none
 | _, _, _ => none
def bytesOf : List Value → ByteArray → Option ByteArray
 | [], acc => some acc
 | .int .u8 n :: r, acc => bytesOf r (acc.push (UInt8.ofNat n.toNat))
 | _, _ => none
def aConvert (cx : Cx) (src dst : TypeId) (x : Value) (id : Nat) (H : Hp) : Res :=
 match cx.und src, cx.und dst, x with
 | some (.slice e), some .string, .slice (some ⟨b, o, none⟩) len _ => match cx.und e, Nat.beq len 0 with
  | some (.int .u8), false => match loadN H b o len with
   | none => none
   | some l => match bytesOf l ByteArray.empty with
    | none => none
    | some s => rval (.string s) H
  | _, _ => none
 | some .string, some (.slice e), .string s => match cx.und e with
  | some (.int .u8) => rval (.slice (some ⟨id, 0, none⟩) s.size s.size) (H.set id (mkCells id e 1 false (s.data.map fun b => Value.int .u8 b.toNat).toList))
  | _ => none
 | _, _, _ => none
def aLen (cx : Cx) (argTypes : Array TypeId) (args : Array Value) (H : Hp) : Res :=
 match argTypes[0]?, (args[0]? : Option Value) with
 | some t, some (.slice _ n _) => match cx.und t with
  | some (.slice _) => rval (goInt n) H
  | _ => none
 | some t, some (.map (some m)) => match cx.und t with
  | some (.map _ _) => match getMap H m with
   | some (es, _) => rval (goInt es.length) H
   | none => none
  | _ => none
 | _, _ => none
def aCallFunc (cx : Cx) (f : FuncId) (args : Array Value) (H : Hp) : Res :=
 match cx.body f with
 | some fn => match fn.body with
  | some _ => some (.enter f args, H)
  | none => none
 | none => none
def aMethod (cx : Cx) (t : TypeId) (v : Value) (name : String) : Option (FuncId × Value) :=
 match cx.info t with
 | none => none
 | some i => match i.methods.find? (·.name == name) with
  | none => none
  | some m => match m.path.isEmpty, m.func, cx.und t with
   | true, some (f, true), some (.pointer _) => some (f, v)
   | true, some (_, false), some (.pointer _) => none
   | true, some (f, false), some _ => some (f, v)
   | _, _, _ => none
def closedRun (cx : Cx) (ρ : Operand → Value) (o : Oper) (H : Hp) : Res :=
 match o.op.operands.toList.all (fun x => shut (ρ x)) with
 | false => none
 | true => match pureRun cx.P (execOp ρ o) with
  | some (.value v) => match shut v with
   | true => rval v H
   | false => none
  | some .skip => some (.skip, H)
  | some (.enter f args) => match args.toList.all shut with
   | true => some (.enter f args, H)
   | false => none
  | _ => none
def orElse (a : Res) (b : Unit → Res) : Res := match a with
 | some r => some r
 | none => b ()
def evOp (cx : Cx) (ρ : Operand → Value) (o : Oper) (id : Nat) (H : Hp) : Res :=
 match o.op with
 | .select _ _ => none
 | .move x | .assign x => rval (ρ x) H
 | .pick c a b => match ρ c with
  | .bool t => rval (if t then ρ a else ρ b) H
  | _ => none
 | .load t a => aLoad cx t (ρ a) H
 | .store t a x => aStore cx t (ρ a) (ρ x) H
 | .fieldAddr s x f => aFieldAddr cx s (ρ x) f H
 | .indexAddr t x i => aIndexAddr cx t (ρ x) (ρ i) H
 | .alloc e => aAlloc cx e id H
 | .box e x => aBox cx e (ρ x) id H
 | .build t parts => aBuild cx t (parts.map fun (i, x) => (i, ρ x)).toList H
 | .buildSlice t len parts => aBuildSlice cx t len (parts.map fun (i, x) => (i, ρ x)).toList id H
 | .field t x k => aField cx t (ρ x) k H
 | .extract t k => match ρ t with
  | .tuple vs => match vs[k]? with
   | some v => rval v H
   | none => none
  | _ => none
 | .nilCheck x => match ρ x with
  | .pointer (some a) => rval (.pointer (some a)) H
  | .func (.func f) a b => rval (.func (.func f) a b) H
  | .iface t v => rval (.iface t v) H
  | _ => none
 | .makeInterface t x => match cx.und t with
  | some (.interface _) => none
  | some _ => rval (.iface t (ρ x)) H
  | none => none
 | .makeFunc fn a b => rval (.func fn (a.map ρ) (b.map ρ)) H
 | .makeMap _ none => aMakeMap id H
 | .makeSlice t l c => aMakeSlice cx t (ρ l) (ρ c) id H
 | .typeAssert x _ asserted ok => match ρ x with
  | .nilIface => closedRun cx ρ o H
  | v => aTypeAssert cx v asserted ok H
 | .lookup t x k ok => aLookup cx t (ρ x) (ρ k) ok H
 | .mapUpdate t m k v | .insert t m k v => aMapUpdate cx t (ρ m) (ρ k) (ρ v) H
 | .mapEntry t m k => aMapEntry cx t (ρ m) (ρ k) H
 | .entryStore _ m s v => aEntryStore cx (ρ m) (ρ s) (ρ v) H
 | .range t x => aRange cx t (ρ x) id H
 | .next it s => aNextOp cx (ρ it) s H
 | .index t x i => match ρ x with
  | .agg cs => aIndex cx t (.agg cs) (ρ i) H
  | _ => closedRun cx ρ o H
 | .slice t x lo hi mx => match ρ x with
  | .string _ => closedRun cx ρ o H
  | .slice none _ _ => closedRun cx ρ o H
  | v => aSlice cx t v (lo.map ρ) (hi.map ρ) (mx.map ρ) H
 | .convert s d x => match ρ x with
  | .slice (some _) _ _ => aConvert cx s d (ρ x) id H
  | .string b => orElse (closedRun cx ρ o H) fun _ => aConvert cx s d (.string b) id H
  | _ => closedRun cx ρ o H
 | .binOp op t x y _ => orElse (closedRun cx ρ o H) fun _ => match op with
  | .eql => aEq cx false t (ρ x) (ρ y) H
  | .neq => aEq cx true t (ρ x) (ρ y) H
  | _ => none
 | .call c => match c.callee with
  | .builtin .append => aAppend cx c.argTypes (c.args.map ρ) id H
  | .builtin .copy => aCopy cx c.argTypes (c.args.map ρ) H
  | .builtin .len => orElse (aLen cx c.argTypes (c.args.map ρ) H) fun _ => closedRun cx ρ o H
  | .builtin _ => closedRun cx ρ o H
  | .value f => match ρ f with
   | .func (.func k) first captured => orElse (aCallFunc cx k (first ++ c.args.map ρ ++ captured) H) fun _ => closedRun cx ρ o H
   | _ => none
  | .invoke recv name => match ρ recv with
   | .iface t v => match aMethod cx t v name with
    | some (f, r) => orElse (aCallFunc cx f (#[r] ++ c.args.map ρ) H) fun _ => closedRun cx ρ o H
    | none => none
   | _ => none
 | _ => closedRun cx ρ o H
structure St where
 tm : T Value
 H : Hp
 nx : Nat
def St.eval (tm : T Value) : Operand → Value
 | .tmp t => match tm.get t with
  | some v => v
  | none => undef
 | .const v => v
 | .global g => .pointer (some ⟨g, 0, none⟩)
 | .func f => .func (.func f) #[] #[]
def putT (tm : T Value) (nt : Nat) (dst : Option Tmp) (v : Value) : Option (T Value) :=
 match dst with
 | none => some tm
 | some d => match Nat.blt d nt with
  | true => some (tm.set d v)
  | false => none
def operandOk (cx : Cx) : Operand → Bool
 | .const v => shut v
 | .global g => Nat.blt g cx.ng
 | _ => true
def isJ : Value → Bool
 | .chan (some _) => true
 | _ => false
def liveOp (tm : T Value) : Operand → Bool
 | .tmp t => match isJ (St.eval tm (.tmp t)) with
  | true => false
  | false => true
 | _ => true
def constsOk (cx : Cx) (tm : T Value) (o : Oper) : Bool := o.op.operands.toList.all (fun x => operandOk cx x && liveOp tm x)
def guardOk (ops : Array Oper) (tm : T Value) (o : Oper) : Bool :=
 match o.guard with
 | none => true
 | some (j, _) => match ops[j]? with
  | none => true
  | some p => match p.dst with
   | none => true
   | some d => liveOp tm (.tmp d)
def yieldedT (ops : Array Oper) (tm : T Value) (j : Nat) : Option Bool :=
 match ops[j]? with
 | none => none
 | some o => match o.dst with
  | none => none
  | some d => match tm.get d with
   | some (.bool b) => some b
   | _ => none
def wantedT (o : Oper) (ops : Array Oper) (tm : T Value) : Bool :=
 match o.guard with
 | none => true
 | some (j, want) => match yieldedT ops tm j with
  | some b => b == want
  | none => false
abbrev Caller := FuncId → Array Value → Hp → Nat → Option (Value × Hp × Nat)
def evFull (cx : Cx) (K : Caller) (ρ : Operand → Value) (o : Oper) (H : Hp) (nx : Nat) : Option (Value × Hp × Nat) :=
 match evOp cx ρ o nx H with
 | none => none
 | some (.val v, H') => some (v, H', Nat.add nx 1)
 | some (.skip, H') => some (undef, H', Nat.add nx 1)
 | some (.enter f args, H') => K f args H' (Nat.add nx 1)
def evOps (cx : Cx) (K : Caller) (ops : Array Oper) (nt : Nat) : List Oper → St → Option St
 | [], s => some s
 | o :: rest, s => match guardOk ops s.tm o with
  | false => none
  | true => match wantedT o ops s.tm with
   | false => match putT s.tm nt o.dst undef with
    | none => none
    | some tm => evOps cx K ops nt rest { s with tm }
   | true => match constsOk cx s.tm o with
    | false => none
    | true => match evFull cx K (St.eval s.tm) o s.H s.nx with
     | none => none
     | some (v, H, nx) => match putT s.tm nt o.dst v with
      | none => none
      | some tm => evOps cx K ops nt rest { tm, H, nx }
inductive AExit where
 | normal
 | exit (id : Nat)
 | ret
inductive Cat where
 | pure | alloc | load | effect
def cat : Op → Cat
 | .move _ | .assign _ | .pick .. | .build .. | .field .. | .fieldAddr .. | .indexAddr .. | .index .. | .unOp .. | .binOp .. | .makeInterface .. | .makeFunc .. | .extract .. | .nilCheck _ | .typeAssert .. => .pure
 | .alloc _ | .box .. | .buildSlice .. | .makeSlice .. | .makeMap .. => .alloc
 | .load .. | .lookup .. | .slice .. => .load
 | .call c => match c.callee with
  | .builtin .len | .builtin .cap | .builtin .min | .builtin .max => .load
  | _ => .effect
 | _ => .effect
def valEq : Nat → Value → Value → Bool
 | 0, _, _ => false
 | d + 1, v, w => match v, w with
  | .bool a, .bool b => a == b
  | .int j a, .int k b => decide (j = k) && decide (a = b)
  | .float j a, .float k b => decide (j = k) && Nat.beq a b
  | .string a, .string b => decide (a.data.toList = b.data.toList)
  | .pointer none, .pointer none => true
  | .pointer (some a), .pointer (some b) => decide (a = b)
  | .slice none a b, .slice none c e => Nat.beq a c && Nat.beq b e
  | .slice (some x) a b, .slice (some y) c e => decide (x = y) && Nat.beq a c && Nat.beq b e
  | .map none, .map none => true
  | .map (some a), .map (some b) => Nat.beq a b
  | .nilFunc, .nilFunc => true
  | .nilIface, .nilIface => true
  | .iface t a, .iface u b => Nat.beq t u && valEq d a b
  | .func f a b, .func g c e => decide (f = g) && valEqL d a.toList c.toList && valEqL d b.toList e.toList
  | .agg a, .agg b => valEqL d a.toList b.toList
  | .tuple a, .tuple b => valEqL d a.toList b.toList
  | _, _ => false
where valEqL (d : Nat) : List Value → List Value → Bool
 | [], [] => true
 | a :: x, b :: y => valEq d a b && valEqL d x y
 | _, _ => false
structure Dr where
 tm : T Value
 G : Hp
 nx : Nat
 all : List (Nat × Nat × AObj)
 stages : List (Nat × Hp)
 loads : List (Nat × Oper × T Value × Value)
def minHeap (G : Hp) (all : List (Nat × Nat × AObj)) (mask : Nat) : Hp :=
 match all with
 | [] => G
 | (j, id, ob) :: r => match mask.testBit j with
  | false => minHeap G r mask
  | true => match (minHeap G r mask).get id with
   | some _ => minHeap G r mask
   | none => (minHeap G r mask).set id ob
def sameLoad (cx : Cx) (o : Oper) (tm : T Value) (id : Nat) (H : Hp) (v : Value) : Bool :=
 match evOp cx (St.eval tm) o id H with
 | some (.val v', _) => valEq 60 v v'
 | _ => false
def lastIn (m : Nat) : List (Nat × Hp) → Bool
 | [] => true
 | st :: _ => m.testBit st.1
def drStep (cx : Cx) (K : Caller) (ops : Array Oper) (nt : Nat) (preds : Array Nat) (base : Nat) (j : Nat) (o : Oper) (s : Dr) : Option Dr :=
 let m := preds.getD j 0
 let ρ := St.eval s.tm
 let fin (v : Value) (s : Dr) : Option Dr := match putT s.tm nt o.dst v with
  | none => none
  | some tm => some { s with tm }
 match guardOk ops s.tm o with
 | false => none
 | true => match wantedT o ops s.tm with
 | false => fin undef s
 | true => match constsOk cx s.tm o with
  | false => none
  | true => match cat o.op with
   | .pure => match evOp cx ρ o (base + j) .nil with
    | some (.val v, _) => fin v s
    | _ => none
   | .alloc => match evOp cx ρ o (base + j) .nil with
    | some (.val v, H1) => match H1.get (base + j) with
     | some ob => fin v { s with all := (j, base + j, ob) :: s.all }
     | none => none
    | _ => none
   | .load => match evOp cx ρ o (base + j) (minHeap s.G s.all m) with
    | some (.val v, _) => match s.stages.all (fun st => m.testBit st.1 || sameLoad cx o s.tm (base + j) (minHeap st.2 s.all m) v) with
     | true => fin v { s with loads := (j, o, s.tm, v) :: s.loads }
     | false => none
    | _ => none
   | .effect =>
    match lastIn m s.stages with
    | false => none
    | true => match evFull cx K ρ o (minHeap s.G s.all m) s.nx with
     | none => none
     | some (v, H', nx') =>
      match s.loads.all (fun l => m.testBit l.1 || sameLoad cx l.2.1 l.2.2.1 (base + l.1) (minHeap H' s.all (preds.getD l.1 0)) l.2.2.2) with
      | false => none
      | true => fin v { s with G := H', nx := nx', stages := (j, s.G) :: s.stages }
def drOps (cx : Cx) (K : Caller) (ops : Array Oper) (nt : Nat) (preds : Array Nat) (base : Nat) : List (Oper × Nat) → Dr → Option Dr
 | [], s => some s
 | (o, j) :: r, s => match drStep cx K ops nt preds base j o s with
  | none => none
  | some s' => drOps cx K ops nt preds base r s'
def maskOf (acc : Array Nat) : List Edge → Nat
 | [] => 0
 | e :: r => match Region.binds .any e with
  | true => maskOf acc r ||| 2 ^ e.on ||| acc.getD e.on 0
  | false => maskOf acc r
def predsGo : List Oper → Array Nat → Array Nat
 | [], acc => acc
 | o :: r, acc => predsGo r (acc.push (maskOf acc o.after.toList))
def readsOf (ops : Array Oper) (o : Oper) : List Tmp :=
 (o.op.operands.toList.filterMap fun | .tmp t => some t | _ => none) ++ (match o.guard with | some (j, _) => ((ops[j]?).bind (·.dst)).toList | none => [])
def drOk (ops : Array Oper) (preds : Array Nat) : Bool :=
 let l := ops.toList.zipIdx
 l.all fun (o, i) => (o.after.all fun e => !Region.binds .any e || Nat.blt e.on i) && match o.dst with
  | none => true
  | some d => l.all fun (p, k) => Nat.beq i k || ((!(p.dst == some d)) && ((!(readsOf ops p).contains d) || (preds.getD k 0).testBit i || (preds.getD i 0).testBit k))
def evDraw (cx : Cx) (K : Caller) (ops : Array Oper) (nt : Nat) (s : St) : Option St :=
 let preds := predsGo ops.toList #[]
 match drOk ops preds with
 | false => none
 | true => match drOps cx K ops nt preds s.nx ops.toList.zipIdx { tm := s.tm, G := s.H, nx := Nat.add s.nx ops.size, all := [], stages := [], loads := [] } with
  | none => none
  | some d => some { tm := d.tm, H := minHeap d.G d.all (2 ^ ops.size - 1), nx := d.nx }
def evCode (cx : Cx) (K : Caller) (nt : Nat) : Nat → Code → St → Option (AExit × St)
 | 0, _, _ => none
 | n + 1, c, s => match c with
  | .skip => some (.normal, s)
  | .label _ => some (.normal, s)
  | .region _ ops false => match evOps cx K ops nt ops.toList s with
   | none => none
   | some s' => some (.normal, s')
  | .region _ ops true => match evDraw cx K ops nt s with
   | none => none
   | some s' => some (.normal, s')
  | .seq a b => match evCode cx K nt n a s with
   | some (.normal, s') => evCode cx K nt n b s'
   | r => r
  | .cond x a b => match operandOk cx x && liveOp s.tm x with
   | false => none
   | true => match St.eval s.tm x with
    | .bool t => evCode cx K nt n (if t then a else b) s
    | _ => none
  | .block id b => match evCode cx K nt n b s with
   | some (.exit k, s') => if k = id then some (.normal, s') else some (.exit k, s')
   | r => r
  | .loop b => match evCode cx K nt n b s with
   | some (.normal, s') => evCode cx K nt n (.loop b) s'
   | r => r
  | .exit id => some (.exit id, s)
  | .ret => some (.ret, s)
  | _ => none
def evResults (cx : Cx) (tm : T Value) (H : Hp) : List ResultVar → Option (List Value)
 | [] => some []
 | r :: rs => match (match r with
   | .tmp t => match liveOp tm (.tmp t) with
    | true => some (St.eval tm (.tmp t))
    | false => none
   | .cell a t => match aLoad cx t (St.eval tm (.tmp a)) H with
    | some (.val v, _) => some v
    | _ => none) with
  | none => none
  | some v => match evResults cx tm H rs with
   | none => none
   | some l => some (v :: l)
def oneOf : List Value → Value
 | [v] => v
 | l => .tuple l.toArray
def evFunc (cx : Cx) : Nat → Caller
 | 0, _, _, _, _ => none
 | n + 1, f, args, H, nx =>
  match cx.intr f with
  | some g => g args H nx
  | none => match cx.body f with
   | none => none
   | some fn => match fn.body with
    | none => none
    | some c => match evCode cx (evFunc cx n) (max args.size fn.ntmps) n c { tm := T.setList (T.room (Nat.add (Nat.log2 (max args.size fn.ntmps)) 1)) 0 args.toList, H, nx } with
     | some (.exit _, _) => none
     | none => none
     | some (_, s) => match evResults cx s.tm s.H fn.results.toList with
      | none => none
      | some l => some (oneOf l, s.H, s.nx)
end Go.Ev
namespace Go.Ev
open Go.RowKit
section
variable {α : Type}
theorem T.get_nil (n : Nat) : (T.nil : T α).get n = none := rfl
theorem T.get_room : ∀ (d n : Nat), (T.room d : T α).get n = none
 | 0, _ => rfl
 | d + 1, n => by
  simp only [T.room, T.get]
  split
  ·rfl
  ·split
   ·exact T.get_room d _
   ·exact T.get_room d _
theorem T.get_split (t : T α) (n : Nat) : t.get n = (T.node t.split.1 t.split.2.1 t.split.2.2).get n := by
 cases t with
 | nil =>
  simp only [T.split, T.get]
  split
  ·rfl
  ·split <;> rfl
 | node v l r => rfl
theorem beq_cases (n m : Nat) : (Nat.beq n m = true ∧ n = m) ∨ (Nat.beq n m = false ∧ n ≠ m) := by
 cases h : Nat.beq n m with
 | true => exact .inl ⟨rfl, Nat.eq_of_beq_eq_true h⟩
 | false => exact .inr ⟨rfl, Nat.ne_of_beq_eq_false h⟩
theorem T.get_put (f : Nat) : ∀ (t : T α) (n : Nat) (a : α) (m : Nat), n < f → (T.put f t n a).get m = if m = n then some a else t.get m := by
 induction f with
 | zero => intro t n a m h; omega
 | succ f ih =>
  intro t n a m h
  rw [T.get_split t m]
  simp only [T.put]
  rcases beq_cases n 0 with ⟨e, rfl⟩ | ⟨e, hn⟩
  ·simp only [e, T.get]
   rcases beq_cases m 0 with ⟨e', rfl⟩ | ⟨e', hm⟩
   ·simp [e']
   ·simp [e', hm]
  ·simp only [e]
   rcases beq_cases (Nat.mod n 2) 1 with ⟨e1, h1⟩ | ⟨e1, h1⟩
   ·simp only [e1, T.get]
    rcases beq_cases m 0 with ⟨e', rfl⟩ | ⟨e', hm⟩
    ·simp only [e']
     rw [if_neg (by omega)]
    ·simp only [e']
     rcases beq_cases (Nat.mod m 2) 1 with ⟨e2, h2⟩ | ⟨e2, h2⟩
     ·simp only [e2]
      rw [ih _ _ _ _ (by show n / 2 < f; omega)]
      have : (Nat.div m 2 = Nat.div n 2) = (m = n) := propext ⟨fun q => by
       have q' : m / 2 = n / 2 := q
       have h1' : n % 2 = 1 := h1
       have h2' : m % 2 = 1 := h2
       omega, fun q => by rw [q]⟩
      simp only [this]
     ·simp only [e2]
      rw [if_neg (by rintro rfl; exact h2 h1)]
   ·simp only [e1, T.get]
    rcases beq_cases m 0 with ⟨e', rfl⟩ | ⟨e', hm⟩
    ·simp only [e']
     rw [if_neg (by omega)]
    ·simp only [e']
     rcases beq_cases (Nat.mod m 2) 1 with ⟨e2, h2⟩ | ⟨e2, h2⟩
     ·simp only [e2]
      rw [if_neg (by rintro rfl; exact h1 h2)]
     ·simp only [e2]
      rw [ih _ _ _ _ (by show n / 2 - 1 < f; omega)]
      have : (Nat.sub (Nat.div m 2) 1 = Nat.sub (Nat.div n 2) 1) = (m = n) := propext ⟨fun q => by
       have q' : m / 2 - 1 = n / 2 - 1 := q
       have h1' : n % 2 ≠ 1 := h1
       have h2' : m % 2 ≠ 1 := h2
       omega, fun q => by rw [q]⟩
      simp only [this]
theorem T.get_set (t : T α) (n : Nat) (a : α) (m : Nat) : (t.set n a).get m = if m = n then some a else t.get m :=
 T.get_put _ _ _ _ _ (by show n < n + 1; omega)
theorem T.get_set_same (t : T α) (n : Nat) (a : α) : (t.set n a).get n = some a := by simp [T.get_set]
theorem T.get_set_ne (t : T α) (n : Nat) (a : α) (m : Nat) (h : m ≠ n) : (t.set n a).get m = t.get m := by simp [T.get_set, h]
theorem T.get_setList : ∀ (l : List α) (t : T α) (i m : Nat), (t.setList i l).get m = if i ≤ m ∧ m < i + l.length then l[m - i]? else t.get m
 | [], t, i, m => by simp [T.setList]; omega
 | a :: l, t, i, m => by
  simp only [T.setList]
  rw [T.get_setList l _ _ m, T.get_set]
  show (if i + 1 ≤ m ∧ m < i + 1 + l.length then _ else _) = _
  by_cases h0 : m = i
  ·subst h0
   rw [if_neg (by omega), if_pos rfl, if_pos (by simp)]
   simp
  ·by_cases h1 : i + 1 ≤ m ∧ m < i + 1 + l.length
   ·rw [if_pos h1, if_pos (by simp; omega)]
    obtain ⟨k, rfl⟩ : ∃ k, m = i + 1 + k := ⟨m - (i + 1), by omega⟩
    rw [show Nat.add i 1 = i + 1 from rfl, show i + 1 + k - (i + 1) = k by omega, show i + 1 + k - i = k + 1 by omega]
    rfl
   ·rw [if_neg h1, if_neg h0, if_neg (by simp; omega)]
end
structure Place where
 cb : Nat
 sh : Nat
 cap : Nat
 esz : Nat
 exact : Bool
abbrev Env := Nat → Option Place
def Env.le (E E' : Env) : Prop := ∀ b pl, E b = some pl → E' b = some pl
theorem Env.le_refl (E : Env) : E.le E := fun _ _ h => h
theorem Env.le_trans {E E' E'' : Env} (h : E.le E') (h' : E'.le E'') : E.le E'' := fun b pl q => h' b pl (h b pl q)
def Env.add (E : Env) (id : Nat) (pl : Place) : Env := fun b => if b = id then some pl else E b
theorem Env.add_same (E : Env) (id : Nat) (pl : Place) : E.add id pl id = some pl := by simp [Env.add]
theorem Env.add_ne (E : Env) (id : Nat) (pl : Place) (b : Nat) (h : b ≠ id) : E.add id pl b = E b := by simp [Env.add, h]
theorem Env.le_add (E : Env) (id : Nat) (pl : Place) (h : E id = none) : E.le (E.add id pl) := by
 intro b q hq
 by_cases e : b = id
 ·subst e; rw [h] at hq; cases hq
 ·rw [Env.add_ne _ _ _ _ e]; exact hq
inductive VR (E : Env) : Value → Value → Prop where
 | shut (d : Nat) (v : Value) (h : closed d v = true) : VR E v v
 | ptr (b o : Nat) (pl : Place) (h : E b = some pl) : VR E (.pointer (some ⟨b, o, none⟩)) (.pointer (some ⟨pl.cb, pl.sh + o, none⟩))
 | slice (b o l c c' : Nat) (a' : Addr) (pl : Place) (h : E b = some pl) (hl : l ≤ c) (hc : c ≤ c') (hx : pl.exact = true → c' = c)
   (ha : c' ≠ 0 → a' = ⟨pl.cb, pl.sh + o, none⟩) (hf : pl.exact = false → pl.sh + o + c' * pl.esz ≤ pl.cap) :
   VR E (.slice (some ⟨b, o, none⟩) l c) (.slice (some a') l c')
 | map (b : Nat) (pl : Place) (h : E b = some pl) : VR E (.map (some b)) (.map (some pl.cb))
 | iface (t : TypeId) (v v' : Value) (h : VR E v v') : VR E (.iface t v) (.iface t v')
 | func (f : Fn) (a b a' b' : Array Value) (ha : a.size = a'.size) (hb : b.size = b'.size)
   (ha' : ∀ (i : Nat) v v', a[i]? = some v → a'[i]? = some v' → VR E v v') (hb' : ∀ (i : Nat) v v', b[i]? = some v → b'[i]? = some v' → VR E v v') :
   VR E (.func f a b) (.func f a' b')
 | agg (a a' : Array Value) (ha : a.size = a'.size) (h : ∀ (i : Nat) v v', a[i]? = some v → a'[i]? = some v' → VR E v v') : VR E (.agg a) (.agg a')
 | tuple (a a' : Array Value) (ha : a.size = a'.size) (h : ∀ (i : Nat) v v', a[i]? = some v → a'[i]? = some v' → VR E v v') : VR E (.tuple a) (.tuple a')
theorem VR.mono {E E' : Env} (le : E.le E') {v v' : Value} (h : VR E v v') : VR E' v v' := by
 induction h with
 | shut d v h => exact .shut d v h
 | ptr b o pl h => exact .ptr b o pl (le _ _ h)
 | slice b o l c c' a' pl h hl hc hx ha hf => exact .slice b o l c c' a' pl (le _ _ h) hl hc hx ha hf
 | map b pl h => exact .map b pl (le _ _ h)
 | iface t v v' _ ih => exact .iface t v v' ih
 | func f a b a' b' ha hb _ _ iha ihb => exact .func f a b a' b' ha hb iha ihb
 | agg a a' ha _ ih => exact .agg a a' ha ih
 | tuple a a' ha _ ih => exact .tuple a a' ha ih
def AR (E : Env) (a a' : Array Value) : Prop := a.size = a'.size ∧ ∀ (i : Nat) v v', a[i]? = some v → a'[i]? = some v' → VR E v v'
def LR (E : Env) (l l' : List Value) : Prop := l.length = l'.length ∧ ∀ (i : Nat) v v', l[i]? = some v → l'[i]? = some v' → VR E v v'
theorem AR.mono {E E' : Env} (le : E.le E') {a a' : Array Value} (h : AR E a a') : AR E' a a' := ⟨h.1, fun i v v' p q => (h.2 i v v' p q).mono le⟩
theorem LR.mono {E E' : Env} (le : E.le E') {a a' : List Value} (h : LR E a a') : LR E' a a' := ⟨h.1, fun i v v' p q => (h.2 i v v' p q).mono le⟩
theorem AR.list {E : Env} {a a' : Array Value} (h : AR E a a') : LR E a.toList a'.toList := ⟨by simpa using h.1, fun i v v' p q => h.2 i v v' (by simpa using p) (by simpa using q)⟩
theorem LR.array {E : Env} {l l' : List Value} (h : LR E l l') : AR E l.toArray l'.toArray := ⟨by simpa using h.1, fun i v v' p q => h.2 i v v' (by simpa using p) (by simpa using q)⟩
theorem LR.nil (E : Env) : LR E [] [] := ⟨rfl, fun i v v' p => by simp at p⟩
theorem LR.cons {E : Env} {v v' : Value} {l l' : List Value} (h : VR E v v') (hl : LR E l l') : LR E (v :: l) (v' :: l') :=
 ⟨by simp [hl.1], fun i x x' p q => by
  cases i with
  | zero => simp at p q; rw [← p, ← q]; exact h
  | succ i => exact hl.2 i x x' (by simpa using p) (by simpa using q)⟩
theorem LR.head {E : Env} {v v' : Value} {l l' : List Value} (h : LR E (v :: l) (v' :: l')) : VR E v v' := h.2 0 _ _ rfl rfl
theorem LR.tail {E : Env} {v v' : Value} {l l' : List Value} (h : LR E (v :: l) (v' :: l')) : LR E l l' :=
 ⟨by simpa using h.1, fun i x x' p q => h.2 (i + 1) x x' (by simpa using p) (by simpa using q)⟩
theorem LR.append {E : Env} {a a' b b' : List Value} (h : LR E a a') (k : LR E b b') : LR E (a ++ b) (a' ++ b') := by
 induction a generalizing a' with
 | nil => cases a' with
  | nil => exact k
  | cons x y => have := h.1; simp at this
 | cons x l ih => cases a' with
  | nil => have := h.1; simp at this
  | cons x' l' => exact LR.cons h.head (ih h.tail)
theorem LR.get {E : Env} {l l' : List Value} (h : LR E l l') {i : Nat} {v : Value} (p : l[i]? = some v) : ∃ v', l'[i]? = some v' ∧ VR E v v' := by
 have hi : i < l'.length := by rw [← h.1]; exact (List.getElem?_eq_some_iff.1 p).1
 exact ⟨l'[i], List.getElem?_eq_getElem hi, h.2 i v _ p (List.getElem?_eq_getElem hi)⟩
theorem AR.get {E : Env} {l l' : Array Value} (h : AR E l l') {i : Nat} {v : Value} (p : l[i]? = some v) : ∃ v', l'[i]? = some v' ∧ VR E v v' := by
 have hi : i < l'.size := by rw [← h.1]; exact (Array.getElem?_eq_some_iff.1 p).1
 exact ⟨l'[i], Array.getElem?_eq_getElem hi, h.2 i v _ p (Array.getElem?_eq_getElem hi)⟩
theorem closed_all {d : Nat} {a : Array Value} (h : a.toList.all (closed d) = true) (i : Nat) (v : Value) (p : a[i]? = some v) : closed d v = true := by
 rw [List.all_eq_true] at h
 exact h v (by rw [← Array.getElem?_toList] at p; exact List.mem_of_getElem? p)
theorem AR.closed (E : Env) {d : Nat} {a : Array Value} (h : a.toList.all (closed d) = true) : AR E a a :=
 ⟨rfl, fun i v v' p q => by rw [p] at q; cases q; exact .shut d v (closed_all h i v p)⟩
theorem VR.agg_inv {E : Env} {a : Array Value} {v' : Value} (h : VR E (.agg a) v') : ∃ a', v' = .agg a' ∧ AR E a a' := by
 cases h with
 | shut d _ h => cases d with
  | zero => simp [closed] at h
  | succ d => exact ⟨a, rfl, AR.closed E (d := d) (by simpa [closed] using h)⟩
 | agg _ a' ha h => exact ⟨a', rfl, ha, h⟩
theorem VR.tuple_inv {E : Env} {a : Array Value} {v' : Value} (h : VR E (.tuple a) v') : ∃ a', v' = .tuple a' ∧ AR E a a' := by
 cases h with
 | shut d _ h => cases d with
  | zero => simp [closed] at h
  | succ d => exact ⟨a, rfl, AR.closed E (d := d) (by simpa [closed] using h)⟩
 | tuple _ a' ha h => exact ⟨a', rfl, ha, h⟩
theorem VR.iface_inv {E : Env} {t : TypeId} {v v' : Value} (h : VR E (.iface t v) v') : ∃ u, v' = .iface t u ∧ VR E v u := by
 cases h with
 | shut d _ h => cases d with
  | zero => simp [closed] at h
  | succ d => exact ⟨v, rfl, .shut d v (by simpa [closed] using h)⟩
 | iface _ _ u h => exact ⟨u, rfl, h⟩
theorem VR.func_inv {E : Env} {f : Fn} {a b : Array Value} {v' : Value} (h : VR E (.func f a b) v') : ∃ a' b', v' = .func f a' b' ∧ AR E a a' ∧ AR E b b' := by
 cases h with
 | shut d _ h => cases d with
  | zero => simp [closed] at h
  | succ d =>
   simp only [closed, Bool.and_eq_true] at h
   exact ⟨a, b, rfl, AR.closed E h.1, AR.closed E h.2⟩
 | func _ _ _ a' b' ha hb h k => exact ⟨a', b', rfl, ⟨ha, h⟩, ⟨hb, k⟩⟩
theorem VR.ptr_inv {E : Env} {b o : Nat} {v' : Value} (h : VR E (.pointer (some ⟨b, o, none⟩)) v') : ∃ pl, E b = some pl ∧ v' = .pointer (some ⟨pl.cb, pl.sh + o, none⟩) := by
 cases h with
 | shut d _ h => cases d <;> simp [closed] at h
 | ptr _ _ pl h => exact ⟨pl, h, rfl⟩
theorem VR.map_inv {E : Env} {b : Nat} {v' : Value} (h : VR E (.map (some b)) v') : ∃ pl, E b = some pl ∧ v' = .map (some pl.cb) := by
 cases h with
 | shut d _ h => cases d <;> simp [closed] at h
 | map _ pl h => exact ⟨pl, h, rfl⟩
theorem VR.slice_inv {E : Env} {b o l c : Nat} {v' : Value} (h : VR E (.slice (some ⟨b, o, none⟩) l c) v') :
  ∃ pl c' a', E b = some pl ∧ v' = .slice (some a') l c' ∧ l ≤ c ∧ c ≤ c' ∧ (pl.exact = true → c' = c) ∧ (c' ≠ 0 → a' = ⟨pl.cb, pl.sh + o, none⟩) ∧ (pl.exact = false → pl.sh + o + c' * pl.esz ≤ pl.cap) := by
 cases h with
 | shut d _ h => cases d <;> simp [closed] at h
 | slice _ _ _ _ c' a' pl h hl hc hx ha hf => exact ⟨pl, c', a', h, rfl, hl, hc, hx, ha, hf⟩
theorem VR.shut_eq {E : Env} : ∀ (d : Nat) {v v' : Value}, closed d v = true → VR E v v' → v' = v := by
 intro d
 induction d with
 | zero => intro v v' h; simp [closed] at h
 | succ d ih =>
  have arr : ∀ a a' : Array Value, a.toList.all (closed d) = true → AR E a a' → a' = a := by
   intro a a' h k
   apply Array.ext_getElem?
   intro i
   cases p : a[i]? with
   | none => rw [Array.getElem?_eq_none_iff] at p ⊢; rw [← k.1]; exact p
   | some v =>
    obtain ⟨v', q, r⟩ := k.get p
    rw [q, ih (closed_all h i v p) r]
  intro v v' h k
  cases k with
  | shut _ _ _ => rfl
  | ptr b o pl _ => simp [closed] at h
  | slice b o l c c' a' pl _ _ _ _ _ _ => simp [closed] at h
  | map b pl _ => simp [closed] at h
  | iface t v u k => simp only [closed] at h; rw [ih h k]
  | func f a b a' b' ha hb k1 k2 =>
   simp only [closed, Bool.and_eq_true] at h
   rw [arr a a' h.1 ⟨ha, k1⟩, arr b b' h.2 ⟨hb, k2⟩]
  | agg a a' ha k => simp only [closed] at h; rw [arr a a' h ⟨ha, k⟩]
  | tuple a a' ha k => simp only [closed] at h; rw [arr a a' h ⟨ha, k⟩]
theorem VR.of_shut (E : Env) {v : Value} (h : Go.Ev.shut v = true) : VR E v v := VR.shut 60 v h
theorem VR.undef (E : Env) : VR E undef undef := .shut 1 _ rfl
theorem VR.cells {E : Env} {v v' : Value} (h : VR E v v') : AR E v.cells v'.cells := by
 have one : ∀ u u' : Value, VR E u u' → AR E #[u] #[u'] := fun u u' k => ⟨rfl, fun i x x' p q => by
  cases i with
  | zero => simp at p q; rw [← p, ← q]; exact k
  | succ i => simp at p⟩
 cases h with
 | agg a a' ha k => exact ⟨ha, k⟩
 | shut d v h =>
  cases v with
  | agg a => cases d with
   | zero => simp [closed] at h
   | succ d => exact AR.closed E (d := d) (a := a) (by simpa only [closed] using h)
  | _ => exact one _ _ (.shut d _ h)
 | ptr b o pl k => exact one _ _ (.ptr b o pl k)
 | slice b o l c c' a' pl k hl hc hx ha hf => exact one _ _ (.slice b o l c c' a' pl k hl hc hx ha hf)
 | map b pl k => exact one _ _ (.map b pl k)
 | iface t v v' k => exact one _ _ (.iface t v v' k)
 | func f a b a' b' ha hb k1 k2 => exact one _ _ (.func f a b a' b' ha hb k1 k2)
 | tuple a a' ha k => exact one _ _ (.tuple a a' ha k)
theorem VR.oneCell {E : Env} {v v' : Value} (h : VR E v v') (k : oneCell v = true) : v'.oneCell' = true := by
 cases h with
 | shut d v h => cases v <;> first | rfl | simp [Go.Ev.oneCell] at k
 | agg a a' ha h => simp [Go.Ev.oneCell] at k
 | tuple a a' ha h => simp [Go.Ev.oneCell] at k
 | _ => rfl
structure MR (E : Env) (e e' : MapEntry) : Prop where
 key : VR E e.key e'.key
 val : VR E e.val e'.val
 born : e'.born = e.born
theorem MR.mono {E E' : Env} (le : E.le E') {e e' : MapEntry} (h : MR E e e') : MR E' e e' := ⟨h.key.mono le, h.val.mono le, h.born⟩
structure CellsR (lo : Nat) (E : Env) (b : Nat) (o : AObj) (pl : Place) (w : World) (n : Nat) (cs : T Value) : Prop where
 there : ∀ k, k < pl.cap → (w.cell? ⟨pl.cb, k, none⟩).isSome = true
 soft : lo ≤ b → ∀ k, k < pl.cap → w.frozen? ⟨pl.cb, k, none⟩ = false
 fits : pl.sh + n ≤ pl.cap
 esz : pl.esz = o.esz
 exact : pl.exact = o.exact
 shape : lo ≤ b → ∃ m, w.shape? pl.cb = some (o.elem, m) ∧ (o.exact = true → m = n ∧ pl.sh = 0)
 cell : ∀ i, i < n → ∃ v v', cs.get i = some v ∧ w.cell? ⟨pl.cb, pl.sh + i, none⟩ = some v' ∧ VR E v v'
def EntriesR (E : Env) (es : List MapEntry) (ces : Array MapEntry) : Prop := ces.size = es.length ∧ ∀ (i : Nat) e e', es[i]? = some e → ces[i]? = some e' → MR E e e'
def DatR (lo : Nat) (E : Env) (b : Nat) (o : AObj) (pl : Place) (w : World) : Prop :=
 match o.dat with
 | none => True
 | some (.cells n cs) => CellsR lo E b o pl w n cs
 | some (.map es clock) => ∃ ces : Array MapEntry, w.heap[pl.cb]? = some (.map ces clock) ∧ EntriesR E es ces
 | some (.strIter s pos) => w.heap[pl.cb]? = some (.stringIter s pos) ∧ pl.sh = 0
 | some (.mapIter m since seen st) => ∃ m', w.heap[pl.cb]? = some (.mapIter m' since seen st) ∧ VR E (.map m) (.map m') ∧ pl.sh = 0
theorem shape_of_block {w w' : World} {b : Nat} (h : w'.heap[b]? = w.heap[b]?) : w'.shape? b = w.shape? b := by
 unfold World.shape?; rw [h]
theorem DatR.keep {lo : Nat} {E E' : Env} (le : E.le E') {b : Nat} {o : AObj} {pl : Place} {w w' : World} (hb : w'.heap[pl.cb]? = w.heap[pl.cb]?) (h : DatR lo E b o pl w) : DatR lo E' b o pl w' := by
 unfold DatR at h ⊢
 cases hd : o.dat with
 | none => simp
 | some d =>
  rw [hd] at h
  cases d with
  | cells n cs =>
   have hc : ∀ k, w'.cell? ⟨pl.cb, k, none⟩ = w.cell? ⟨pl.cb, k, none⟩ := fun k => World.cell?_of_block (w := w) (a := ⟨pl.cb, k, none⟩) hb
   have hf : ∀ k, w'.frozen? ⟨pl.cb, k, none⟩ = w.frozen? ⟨pl.cb, k, none⟩ := fun k => World.frozen?_of_block (w := w) (a := ⟨pl.cb, k, none⟩) hb
   exact ⟨fun k hk => by rw [hc]; exact h.there k hk, fun hl k hk => by rw [hf]; exact h.soft hl k hk, h.fits, h.esz, h.exact, fun hl => by rw [shape_of_block hb]; exact h.shape hl, fun i hi => by
    obtain ⟨v, v', p, q, r⟩ := h.cell i hi
    exact ⟨v, v', p, by rw [hc]; exact q, r.mono le⟩⟩
  | map es clock =>
   obtain ⟨ces, p, q⟩ := h
   exact ⟨ces, hb.trans p, q.1, fun i e e' x y => (q.2 i e e' x y).mono le⟩
  | strIter s pos => exact ⟨hb.trans h.1, h.2⟩
  | mapIter m since seen st =>
   obtain ⟨m', p, q, r⟩ := h
   exact ⟨m', hb.trans p, q.mono le, r⟩
def endOf (o : AObj) (pl : Place) : Nat :=
 match o.dat with
 | some (.cells n _) => pl.sh + n
 | _ => 0
structure HR (B lo : Nat) (E : Env) (H : Hp) (w : World) : Prop where
 dat : ∀ b o, H.get b = some o → ∃ pl, E b = some pl ∧ DatR lo E b o pl w
 root : ∀ b o, H.get b = some o → o.dat ≠ none → lo ≤ b → ∃ ro, H.get o.root = some ro ∧ b ∈ ro.kin
 apart : ∀ b1 b2 o1 o2 pl1 pl2, H.get b1 = some o1 → H.get b2 = some o2 → o1.dat ≠ none → o2.dat ≠ none → lo ≤ b1 → b1 < b2 →
  E b1 = some pl1 → E b2 = some pl2 → pl1.cb = pl2.cb → o1.root = o2.root ∧ endOf o1 pl1 ≤ endOf o2 pl2
 bound : ∀ b pl, E b = some pl → pl.cb < w.heap.size
 new : ∀ b pl, E b = some pl → lo ≤ b → B ≤ pl.cb
 old : ∀ b pl, E b = some pl → b < lo → pl.cb < B
 base : B ≤ w.heap.size
theorem HR.below {B lo : Nat} {E : Env} {H : Hp} {w w' : World} (h : HR B lo E H w) (hb : Below w.heap.size w w') : HR B lo E H w' where
 dat b o p := by
  obtain ⟨pl, q, r⟩ := h.dat b o p
  exact ⟨pl, q, r.keep (Env.le_refl E) (hb.block _ (h.bound b pl q))⟩
 root := h.root
 apart := h.apart
 bound b pl q := Nat.lt_of_lt_of_le (h.bound b pl q) hb.size
 new := h.new
 old := h.old
 base := Nat.le_trans h.base hb.size
theorem HR.drew {B lo : Nat} {E : Env} {H : Hp} {w : World} (h : HR B lo E H w) : HR B lo E H w.drew := h.below ((Below.refl _ _).drew)
theorem HR.alloc {B lo : Nat} {E : Env} {H : Hp} {w : World} (h : HR B lo E H w) {id : Nat} (he : E id = none) (hg : H.get id = none) (hl : lo ≤ id)
  {o : AObj} {pl : Place} {ob : Obj} (hr : o.root = id) (hk : o.kin = [id]) (hcb : pl.cb = w.heap.size) (hd : DatR lo (E.add id pl) id o pl (w.alloc ob)) :
  HR B lo (E.add id pl) (H.set id o) (w.alloc ob) where
 dat b x p := by
  rw [T.get_set] at p
  by_cases e : b = id
  ·subst e
   rw [if_pos rfl] at p
   cases p
   exact ⟨pl, Env.add_same _ _ _, hd⟩
  ·rw [if_neg e] at p
   obtain ⟨q, r, s⟩ := h.dat b x p
   refine ⟨q, by rw [Env.add_ne _ _ _ _ e]; exact r, s.keep (Env.le_add _ _ _ he) (Below.heap_alloc _ _ _ (h.bound b q r))⟩
 root b x p hx hb := by
  rw [T.get_set] at p
  by_cases e : b = id
  ·subst e
   rw [if_pos rfl] at p
   cases p
   exact ⟨o, by rw [hr, T.get_set_same], by rw [hk]; simp⟩
  ·rw [if_neg e] at p
   obtain ⟨ro, q, r⟩ := h.root b x p hx hb
   have : x.root ≠ id := by intro e2; rw [e2, hg] at q; cases q
   exact ⟨ro, by rw [T.get_set_ne _ _ _ _ this]; exact q, r⟩
 apart b1 b2 o1 o2 pl1 pl2 p1 p2 d1 d2 l1 lt e1 e2 ecb := by
  rw [T.get_set] at p1 p2
  by_cases k1 : b1 = id
  ·subst k1
   have k2 : b2 ≠ b1 := by omega
   rw [if_neg k2] at p2
   rw [Env.add_same] at e1
   rw [Env.add_ne _ _ _ _ k2] at e2
   cases e1
   have := h.bound b2 pl2 e2
   omega
  ·by_cases k2 : b2 = id
   ·subst k2
    rw [Env.add_same] at e2
    rw [Env.add_ne _ _ _ _ k1] at e1
    cases e2
    have := h.bound b1 pl1 e1
    omega
   ·rw [if_neg k1] at p1
    rw [if_neg k2] at p2
    rw [Env.add_ne _ _ _ _ k1] at e1
    rw [Env.add_ne _ _ _ _ k2] at e2
    exact h.apart b1 b2 o1 o2 pl1 pl2 p1 p2 d1 d2 l1 lt e1 e2 ecb
 bound b q e := by
  by_cases k : b = id
  ·subst k; rw [Env.add_same] at e; cases e; rw [World.size_alloc]; omega
  ·rw [Env.add_ne _ _ _ _ k] at e; have := h.bound b q e; rw [World.size_alloc]; omega
 new b q e hb := by
  by_cases k : b = id
  ·subst k; rw [Env.add_same] at e; cases e; have := h.base; omega
  ·rw [Env.add_ne _ _ _ _ k] at e; exact h.new b q e hb
 old b q e hb := by
  by_cases k : b = id
  ·subst k; omega
  ·rw [Env.add_ne _ _ _ _ k] at e; exact h.old b q e hb
 base := by rw [World.size_alloc]; have := h.base; omega
theorem HR.update {B lo : Nat} {E : Env} {H : Hp} {w w' : World} (h : HR B lo E H w) {b : Nat} {o o' : AObj} {pl : Place} (hg : H.get b = some o) (he : E b = some pl) (hlo : lo ≤ b)
  (hroot : o'.root = o.root) (hkin : o'.kin = o.kin) (halone : ∀ c oc plc, H.get c = some oc → oc.dat ≠ none → c ≠ b → E c = some plc → plc.cb ≠ pl.cb) (hlive : o.dat ≠ none)
  (hsize : w.heap.size ≤ w'.heap.size) (hblock : ∀ k, k ≠ pl.cb → k < w.heap.size → w'.heap[k]? = w.heap[k]?) (hd : DatR lo E b o' pl w') :
  HR B lo E (H.set b o') w' where
 dat c oc p := by
  rw [T.get_set] at p
  by_cases e : c = b
  ·subst e; rw [if_pos rfl] at p; cases p; exact ⟨pl, he, hd⟩
  ·rw [if_neg e] at p
   obtain ⟨q, r, s⟩ := h.dat c oc p
   refine ⟨q, r, ?_⟩
   by_cases hn : oc.dat = none
   ·unfold DatR; rw [hn]; trivial
   ·exact s.keep (Env.le_refl E) (hblock _ (halone c oc q p hn e r) (h.bound c q r))
 root c oc p hx hb := by
  rw [T.get_set] at p
  have key : ∀ r ro, H.get r = some ro → c ∈ ro.kin → ∃ ro2, (H.set b o').get r = some ro2 ∧ c ∈ ro2.kin := by
   intro r ro q k
   by_cases e : r = b
   ·subst e
    rw [hg] at q
    cases q
    exact ⟨o', T.get_set_same _ _ _, by rw [hkin]; exact k⟩
   ·exact ⟨ro, by rw [T.get_set_ne _ _ _ _ e]; exact q, k⟩
  by_cases e : c = b
  ·subst e
   rw [if_pos rfl] at p; cases p
   obtain ⟨ro, q, k⟩ := h.root c o hg hlive hb
   rw [hroot]
   exact key _ ro q k
  ·rw [if_neg e] at p
   obtain ⟨ro, q, k⟩ := h.root c oc p hx hb
   exact key _ ro q k
 apart b1 b2 o1 o2 pl1 pl2 p1 p2 d1 d2 l1 lt e1 e2 ecb := by
  rw [T.get_set] at p1 p2
  by_cases k1 : b1 = b
  ·subst k1
   have k2 : b2 ≠ b1 := by omega
   rw [if_neg k2] at p2
   rw [he] at e1; cases e1
   exact absurd ecb.symm (halone b2 o2 pl2 p2 d2 k2 e2)
  ·rw [if_neg k1] at p1
   by_cases k2 : b2 = b
   ·subst k2
    rw [he] at e2; cases e2
    exact absurd ecb (halone b1 o1 pl1 p1 d1 k1 e1)
   ·rw [if_neg k2] at p2
    exact h.apart b1 b2 o1 o2 pl1 pl2 p1 p2 d1 d2 l1 lt e1 e2 ecb
 bound c q e := Nat.lt_of_lt_of_le (h.bound c q e) hsize
 new := h.new
 old := h.old
 base := Nat.le_trans h.base hsize
structure Killed (H H' : Hp) (dead : Nat → Prop) : Prop where
 get : ∀ b o, H.get b = some o → ∃ o', H'.get b = some o' ∧ o'.root = o.root ∧ o'.kin = o.kin ∧ (o' = o ∨ o'.dat = none) ∧ (dead b → o'.dat = none)
 back : ∀ b o', H'.get b = some o' → ∃ o, H.get b = some o
theorem Killed.refl (H : Hp) : Killed H H (fun _ => False) := ⟨fun b o p => ⟨o, p, rfl, rfl, .inl rfl, False.elim⟩, fun b o p => ⟨o, p⟩⟩
theorem killAll_spec {keep : Nat → Bool} : ∀ (l : List Nat) (H H' : Hp), killAll H keep l = some H' →
  Killed H H' (fun b => b ∈ l ∧ keep b = false) ∧ (∀ b, keep b = true → H'.get b = H.get b) ∧ (∀ b, b ∉ l → H'.get b = H.get b)
 | [], H, H', h => by
  simp only [killAll] at h
  cases h
  exact ⟨⟨fun b o p => ⟨o, p, rfl, rfl, .inl rfl, fun q => by simp at q⟩, fun b o p => ⟨o, p⟩⟩, fun _ _ => rfl, fun _ _ => rfl⟩
 | m :: r, H, H', h => by
  simp only [killAll] at h
  cases hk : keep m with
  | true =>
   rw [hk] at h
   obtain ⟨k, s, u⟩ := killAll_spec r H H' h
   refine ⟨⟨fun b o p => ?_, k.back⟩, s, fun b hb => u b (fun q => hb (List.mem_cons_of_mem _ q))⟩
   obtain ⟨o', x1, x2, x3, x4, x5⟩ := k.get b o p
   refine ⟨o', x1, x2, x3, x4, fun q => ?_⟩
   rcases List.mem_cons.1 q.1 with e | e
   ·subst e; rw [hk] at q; cases q.2
   ·exact x5 ⟨e, q.2⟩
  | false =>
   rw [hk] at h
   cases hm : H.get m with
   | none => rw [hm] at h; cases h
   | some ob =>
    rw [hm] at h
    obtain ⟨k, s, u⟩ := killAll_spec r _ H' h
    refine ⟨⟨fun b o p => ?_, fun b o' p => ?_⟩, fun b hb => ?_, fun b hb => ?_⟩
    ·by_cases e : b = m
     ·subst e
      rw [hm] at p; cases p
      obtain ⟨o', x1, x2, x3, x4, x5⟩ := k.get b _ (T.get_set_same _ _ _)
      have dn : o'.dat = none := by
       rcases x4 with e | e
       ·rw [e]
       ·exact e
      exact ⟨o', x1, x2, x3, .inr dn, fun _ => dn⟩
     ·obtain ⟨o', x1, x2, x3, x4, x5⟩ := k.get b o (by rw [T.get_set_ne _ _ _ _ e]; exact p)
      refine ⟨o', x1, x2, x3, x4, fun q => ?_⟩
      rcases List.mem_cons.1 q.1 with e' | e'
      ·exact absurd e' e
      ·exact x5 ⟨e', q.2⟩
    ·obtain ⟨o, q⟩ := k.back b o' p
     by_cases e : b = m
     ·subst e; exact ⟨ob, hm⟩
     ·rw [T.get_set_ne _ _ _ _ e] at q; exact ⟨o, q⟩
    ·rw [s b hb, T.get_set_ne]
     rintro rfl
     rw [hk] at hb; cases hb
    ·have hne : b ≠ m := fun e => hb (by rw [e]; exact List.mem_cons_self)
     rw [u b (fun q => hb (List.mem_cons_of_mem _ q)), T.get_set_ne _ _ _ _ hne]
theorem HR.killed {B lo : Nat} {E : Env} {H H' : Hp} {w : World} {dead : Nat → Prop} (h : HR B lo E H w) (k : Killed H H' dead) : HR B lo E H' w where
 dat b o' p := by
  obtain ⟨o, q⟩ := k.back b o' p
  obtain ⟨o2, x1, x2, x3, x4, x5⟩ := k.get b o q
  rw [p] at x1; cases x1
  obtain ⟨pl, e, d⟩ := h.dat b o q
  refine ⟨pl, e, ?_⟩
  rcases x4 with x4 | x4
  ·rw [x4]; exact d
  ·unfold DatR; rw [x4]; trivial
 root b o' p hx hb := by
  obtain ⟨o, q⟩ := k.back b o' p
  obtain ⟨o2, x1, x2, x3, x4, x5⟩ := k.get b o q
  rw [p] at x1; cases x1
  have e : o' = o := x4.resolve_right hx
  subst e
  obtain ⟨ro, r, s⟩ := h.root b o' q hx hb
  obtain ⟨ro2, y1, y2, y3, y4, y5⟩ := k.get _ ro r
  exact ⟨ro2, y1, by rw [y3]; exact s⟩
 apart b1 b2 o1 o2 pl1 pl2 p1 p2 d1 d2 l1 lt e1 e2 ecb := by
  obtain ⟨q1, r1⟩ := k.back b1 o1 p1
  obtain ⟨q2, r2⟩ := k.back b2 o2 p2
  obtain ⟨u1, x1, x2, x3, x4, x5⟩ := k.get b1 q1 r1
  obtain ⟨u2, y1, y2, y3, y4, y5⟩ := k.get b2 q2 r2
  rw [p1] at x1; cases x1
  rw [p2] at y1; cases y1
  have f1 : o1 = q1 := x4.resolve_right d1
  have f2 : o2 = q2 := y4.resolve_right d2
  subst f1; subst f2
  exact h.apart b1 b2 o1 o2 pl1 pl2 r1 r2 d1 d2 l1 lt e1 e2 ecb
 bound := h.bound
 new := h.new
 old := h.old
 base := h.base
theorem HR.rekin {B lo : Nat} {E : Env} {H : Hp} {w : World} (h : HR B lo E H w) {r : Nat} {ro : AObj} (hr : H.get r = some ro) {kin : List Nat}
  (hk : ∀ b o, H.get b = some o → o.dat ≠ none → lo ≤ b → o.root = r → b ∈ kin) : HR B lo E (H.set r { ro with kin }) w where
 dat b o p := by
  rw [T.get_set] at p
  by_cases e : b = r
  ·subst e; rw [if_pos rfl] at p; cases p
   obtain ⟨pl, x, y⟩ := h.dat b ro hr
   refine ⟨pl, x, ?_⟩
   unfold DatR at y ⊢
   cases hd : ro.dat with
   | none => simp [hd]
   | some d =>
    simp only [hd] at y ⊢
    cases d with
    | cells n cs => exact ⟨y.there, y.soft, y.fits, y.esz, y.exact, y.shape, y.cell⟩
    | _ => exact y
  ·rw [if_neg e] at p; exact h.dat b o p
 root b o p hx hb := by
  rw [T.get_set] at p
  have main : ∀ x : AObj, H.get b = some x → x.dat ≠ none → ∃ ro2, (H.set r { ro with kin }).get x.root = some ro2 ∧ b ∈ ro2.kin := by
   intro x q dx
   by_cases e2 : x.root = r
   ·exact ⟨_, by rw [e2]; exact T.get_set_same _ _ _, hk b x q dx hb e2⟩
   ·obtain ⟨ro2, u, v⟩ := h.root b x q dx hb
    exact ⟨ro2, by rw [T.get_set_ne _ _ _ _ e2]; exact u, v⟩
  by_cases e : b = r
  ·subst e; rw [if_pos rfl] at p; cases p
   exact main ro hr hx
  ·rw [if_neg e] at p
   exact main o p hx
 apart b1 b2 o1 o2 pl1 pl2 p1 p2 d1 d2 l1 lt e1 e2 ecb := by
  rw [T.get_set] at p1 p2
  have main : ∀ x1 x2 : AObj, H.get b1 = some x1 → H.get b2 = some x2 → x1.dat = o1.dat → x2.dat = o2.dat → x1.root = o1.root → x2.root = o2.root → o1.root = o2.root ∧ endOf o1 pl1 ≤ endOf o2 pl2 := by
   intro x1 x2 q1 q2 t1 t2 t3 t4
   have := h.apart b1 b2 x1 x2 pl1 pl2 q1 q2 (by rw [t1]; exact d1) (by rw [t2]; exact d2) l1 lt e1 e2 ecb
   rw [t3, t4] at this
   unfold endOf at this ⊢
   rw [t1, t2] at this
   exact this
  by_cases k1 : b1 = r
  ·subst k1
   rw [if_pos rfl] at p1; cases p1
   rw [if_neg (by omega)] at p2
   exact main ro o2 hr p2 rfl rfl rfl rfl
  ·rw [if_neg k1] at p1
   by_cases k2 : b2 = r
   ·subst k2
    rw [if_pos rfl] at p2; cases p2
    exact main o1 ro p1 hr rfl rfl rfl rfl
   ·rw [if_neg k2] at p2
    exact main o1 o2 p1 p2 rfl rfl rfl rfl
 bound := h.bound
 new := h.new
 old := h.old
 base := h.base
end Go.Ev
