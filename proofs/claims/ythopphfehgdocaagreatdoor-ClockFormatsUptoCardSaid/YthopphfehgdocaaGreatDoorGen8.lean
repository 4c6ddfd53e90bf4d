import Derived.Test.YthopphfehgdocaaGreatDoorGen7
import Derived.KernelRfl
set_option linter.unusedSimpArgs false
set_option linter.unusedVariables false
namespace Go.Ev
open Go.RowKit
variable {cx : Cx}
inductive RecO where
 | b (x : Bool)
 | eq (v w : Value)
def RecO.holds : RecO → Prop
 | .b x => x = true
 | .eq v w => v = w
def bools : List RecO → Bool
 | [] => true
 | .b x :: r => x && bools r
 | .eq _ _ :: r => bools r
def lefts : List RecO → List Value
 | [] => []
 | .b _ :: r => lefts r
 | .eq v _ :: r => v :: lefts r
def rights : List RecO → List Value
 | [] => []
 | .b _ :: r => rights r
 | .eq _ w :: r => w :: rights r
def eqable : Nat → Value → Bool
 | 0, _ => false
 | d + 1, v => match v with
  | .bool _ | .int _ _ | .float _ _ | .string _ | .pointer _ | .slice _ _ _ | .map _ | .nilFunc | .nilIface => true
  | .iface _ v => eqable d v
  | .func _ a b => a.toList.all (eqable d) && b.toList.all (eqable d)
  | .agg a => a.toList.all (eqable d)
  | .tuple a => a.toList.all (eqable d)
  | _ => false
theorem valEqL_refl {d : Nat} (ih : ∀ v, eqable d v = true → valEq d v v = true) : ∀ l : List Value, l.all (eqable d) = true → valEq.valEqL d l l = true
 | [], _ => by simp [valEq.valEqL]
 | v :: l, h => by
  simp only [List.all_cons, Bool.and_eq_true] at h
  simp only [valEq.valEqL, Bool.and_eq_true]
  exact ⟨ih v h.1, valEqL_refl ih l h.2⟩
theorem valEq_refl : ∀ (d : Nat) (v : Value), eqable d v = true → valEq d v v = true
 | 0, v, h => by simp [eqable] at h
 | d + 1, v, h => by
  have ih := valEq_refl d
  cases v with
  | pointer a => cases a <;> simp [valEq]
  | slice a l c => cases a <;> simp [valEq]
  | map a => cases a <;> simp [valEq]
  | iface t v => simp only [eqable] at h; simp [valEq, ih v h]
  | func f a b => simp only [eqable, Bool.and_eq_true] at h; simp [valEq, valEqL_refl ih _ h.1, valEqL_refl ih _ h.2]
  | agg a => simp only [eqable] at h; simp [valEq, valEqL_refl ih _ h]
  | tuple a => simp only [eqable] at h; simp [valEq, valEqL_refl ih _ h]
  | bool b => simp [valEq]
  | int k n => simp [valEq]
  | float k n => simp [valEq]
  | string b => simp [valEq]
  | nilFunc => simp [valEq]
  | nilIface => simp [valEq]
  | _ => simp [eqable] at h
def loadRec (cx : Cx) (o : Oper) (tm : T Value) (id : Nat) (H : Hp) (v : Value) : List RecO :=
 match evOp cx (St.eval tm) o id H with
 | some (.val v', _) => [.eq v v', .b (eqable 60 v)]
 | _ => [.b false]
abbrev CallerO := FuncId → Array Value → Hp → Nat → List Bool → Option (Value × Hp × Nat × List Bool × List RecO)
abbrev Hook := Oper → (Operand → Value) → Nat → Hp → List Bool → Option (Value × Hp × List Bool × Bool)
def AsrtOk (cx : Cx) : Prop := ∀ f a args H nx v H' nx', cx.asrt f = some a → a args H nx = some (v, H', nx', true) → ∃ g, cx.intr f = some g ∧ g args H nx = some (v, H', nx')
def HookOk (cx : Cx) (hk : Hook) : Prop := (∀ o ρ id H p v H' p', hk o ρ id H p = some (v, H', p', true) → evOp cx ρ o id H = some (.val v, H')) ∧ AsrtOk cx
def asksO (o : Oper) : Bool :=
 match o.op with
 | .lookup _ _ _ _ => true
 | .call c => match c.callee with
  | .builtin .append => true
  | _ => false
 | _ => false
def evOpO (cx : Cx) (hk : Hook) (ρ : Operand → Value) (o : Oper) (id : Nat) (H : Hp) (p : List Bool) : Option (ANext × Hp × List Bool × List RecO) :=
 match o.op with
 | .pick c a b => match ρ c, p with
  | .bool t, q :: p' => some (.val (bif q then ρ a else ρ b), H, p', [.b (t == q)])
  | _, _ => none
 | _ => match asksO o with
  | true => match p with
   | true :: p' => match evOp cx ρ o id H with
    | none => none
    | some (r, H') => some (r, H', p', [])
   | false :: p' => match hk o ρ id H p' with
    | some (v, H', p2, b) => some (.val v, H', p2, [.b b])
    | none => none
   | [] => none
  | false => match hk o ρ id H p with
   | some (v, H', p2, b) => some (.val v, H', p2, [.b b])
   | none => match evOp cx ρ o id H with
    | none => none
    | some (r, H') => some (r, H', p, [])
def evFullO (cx : Cx) (hk : Hook) (K : CallerO) (ρ : Operand → Value) (o : Oper) (H : Hp) (nx : Nat) (p : List Bool) : Option (Value × Hp × Nat × List Bool × List RecO) :=
 match evOpO cx hk ρ o nx H p with
 | none => none
 | some (.val v, H', p', r) => some (v, H', Nat.add nx 1, p', r)
 | some (.skip, H', p', r) => some (undef, H', Nat.add nx 1, p', r)
 | some (.enter f args, H', p', r) => match K f args H' (Nat.add nx 1) p' with
  | none => none
  | some (v, H2, n2, p2, r2) => some (v, H2, n2, p2, r ++ r2)
def wantedO (o : Oper) (ops : Array Oper) (tm : T Value) (p : List Bool) : Option (Bool × List Bool × List RecO) :=
 match o.guard with
 | none => some (true, p, [])
 | some (j, want) => match guardOk ops tm o with
  | false => none
  | true => match yieldedT ops tm j with
   | none => some (false, p, [])
   | some b => match p with
    | q :: p' => some (q == want, p', [.b (b == q)])
    | [] => none
def evOpsO (cx : Cx) (hk : Hook) (K : CallerO) (ops : Array Oper) (nt : Nat) : List Oper → St → List Bool → Option (St × List Bool × List RecO)
 | [], s, p => some (s, p, [])
 | o :: rest, s, p => match wantedO o ops s.tm p with
  | none => none
  | some (false, p, r) => match putT s.tm nt o.dst undef with
   | none => none
   | some tm => match evOpsO cx hk K ops nt rest { s with tm } p with
    | none => none
    | some (s', p', r') => some (s', p', r ++ r')
  | some (true, p, r) => match constsOk cx s.tm o with
   | false => none
   | true => match evFullO cx hk K (St.eval s.tm) o s.H s.nx p with
    | none => none
    | some (v, H, nx, p, r1) => match putT s.tm nt o.dst v with
     | none => none
     | some tm => match evOpsO cx hk K ops nt rest { tm, H, nx } p with
      | none => none
      | some (s', p', r') => some (s', p', r ++ (r1 ++ r'))
def drStepO (cx : Cx) (hk : Hook) (K : CallerO) (ops : Array Oper) (nt : Nat) (preds : Array Nat) (base : Nat) (j : Nat) (o : Oper) (s : Dr) (p : List Bool) : Option (Dr × List Bool × List RecO) :=
 let m := preds.getD j 0
 let ρ := St.eval s.tm
 let fin (v : Value) (s : Dr) (p : List Bool) (r : List RecO) : Option (Dr × List Bool × List RecO) := match putT s.tm nt o.dst v with
  | none => none
  | some tm => some ({ s with tm }, p, r)
 match wantedO o ops s.tm p with
 | none => none
 | some (false, p, r) => fin undef s p r
 | some (true, p, r) => match constsOk cx s.tm o with
  | false => none
  | true => match cat o.op with
   | .pure => match evOpO cx hk ρ o (base + j) .nil p with
    | some (.val v, _, p, r1) => fin v s p (r ++ r1)
    | _ => none
   | .alloc => match evOp cx ρ o (base + j) .nil with
    | some (.val v, H1) => match H1.get (base + j) with
     | some ob => fin v { s with all := (j, base + j, ob) :: s.all } p r
     | none => none
    | _ => none
   | .load => match evOpO cx hk ρ o (base + j) (minHeap s.G s.all m) p with
    | some (.val v, _, p, r1) => fin v { s with loads := (j, o, s.tm, v) :: s.loads } p (r ++ (r1 ++ s.stages.flatMap (fun st => bif m.testBit st.1 then [] else loadRec cx o s.tm (base + j) (minHeap st.2 s.all m) v)))
    | _ => none
   | .effect =>
    match lastIn m s.stages with
    | false => none
    | true => match evFullO cx hk K ρ o (minHeap s.G s.all m) s.nx p with
     | none => none
     | some (v, H', nx', p, r1) =>
      fin v { s with G := H', nx := nx', stages := (j, s.G) :: s.stages } p (r ++ (r1 ++ s.loads.flatMap (fun l => bif m.testBit l.1 then [] else loadRec cx l.2.1 l.2.2.1 (base + l.1) (minHeap H' s.all (preds.getD l.1 0)) l.2.2.2)))
def drOpsO (cx : Cx) (hk : Hook) (K : CallerO) (ops : Array Oper) (nt : Nat) (preds : Array Nat) (base : Nat) : List (Oper × Nat) → Dr → List Bool → Option (Dr × List Bool × List RecO)
 | [], s, p => some (s, p, [])
 | (o, j) :: rest, s, p => match drStepO cx hk K ops nt preds base j o s p with
  | none => none
  | some (s', p, r) => match drOpsO cx hk K ops nt preds base rest s' p with
   | none => none
   | some (s2, p2, r2) => some (s2, p2, r ++ r2)
def evDrawO (cx : Cx) (hk : Hook) (K : CallerO) (ops : Array Oper) (nt : Nat) (s : St) (p : List Bool) : Option (St × List Bool × List RecO) :=
 let preds := predsGo ops.toList #[]
 match drOk ops preds with
 | false => none
 | true => match drOpsO cx hk K ops nt preds s.nx ops.toList.zipIdx { tm := s.tm, G := s.H, nx := Nat.add s.nx ops.size, all := [], stages := [], loads := [] } p with
  | none => none
  | some (d, p, r) => some ({ tm := d.tm, H := minHeap d.G d.all (2 ^ ops.size - 1), nx := d.nx }, p, r)
def evCodeO (cx : Cx) (hk : Hook) (K : CallerO) (nt : Nat) : Nat → Code → St → List Bool → Option (AExit × St × List Bool × List RecO)
 | 0, _, _, _ => none
 | n + 1, c, s, p => match c with
  | .skip => some (.normal, s, p, [])
  | .label _ => some (.normal, s, p, [])
  | .region _ ops false => match evOpsO cx hk K ops nt ops.toList s p with
   | none => none
   | some (s', p', r) => some (.normal, s', p', r)
  | .region _ ops true => match evDrawO cx hk K ops nt s p with
   | none => none
   | some (s', p', r) => some (.normal, s', p', r)
  | .seq a b => match evCodeO cx hk K nt n a s p with
   | none => none
   | some (.normal, s', p', r) => match evCodeO cx hk K nt n b s' p' with
    | none => none
    | some (e, s2, p2, r2) => some (e, s2, p2, r ++ r2)
   | some (e, s', p', r) => some (e, s', p', r)
  | .cond x a b => match operandOk cx x && liveOp s.tm x with
   | false => none
   | true => match St.eval s.tm x, p with
    | .bool t, q :: p => match evCodeO cx hk K nt n (bif q then a else b) s p with
     | none => none
     | some (e, s2, p2, r2) => some (e, s2, p2, .b (t == q) :: r2)
    | _, _ => none
  | .block id b => match evCodeO cx hk K nt n b s p with
   | none => none
   | some (.exit k, s', p', r) => if k = id then some (.normal, s', p', r) else some (.exit k, s', p', r)
   | some (e, s', p', r) => some (e, s', p', r)
  | .loop b => match evCodeO cx hk K nt n b s p with
   | none => none
   | some (.normal, s', p', r) => match evCodeO cx hk K nt n (.loop b) s' p' with
    | none => none
    | some (e, s2, p2, r2) => some (e, s2, p2, r ++ r2)
   | some (e, s', p', r) => some (e, s', p', r)
  | .exit id => some (.exit id, s, p, [])
  | .ret => some (.ret, s, p, [])
  | _ => none
def evFuncO (cx : Cx) (hk : Hook) : Nat → CallerO
 | 0, _, _, _, _, _ => none
 | n + 1, f, args, H, nx, p =>
  match cx.asrt f with
  | some a => match a args H nx with
   | some (v, H', nx', b) => some (v, H', nx', p, [.b b])
   | none => none
  | none => match cx.intr f with
  | some g => match g args H nx with
   | none => none
   | some (v, H', nx') => some (v, H', nx', p, [])
  | none => match cx.body f with
   | none => none
   | some fn => match fn.body with
    | none => none
    | some c => match evCodeO cx hk (evFuncO cx hk n) (max args.size fn.ntmps) n c { tm := T.setList (T.room (Nat.add (Nat.log2 (max args.size fn.ntmps)) 1)) 0 args.toList, H, nx } p with
     | some (.exit _, _, _, _) => none
     | none => none
     | some (_, s, p', r) => match evResults cx s.tm s.H fn.results.toList with
      | none => none
      | some l => some (oneOf l, s.H, s.nx, p', r)
def So (r : List RecO) : Prop := ∀ x ∈ r, x.holds
theorem So.left {r r' : List RecO} (h : So (r ++ r')) : So r := fun b hb => h b (List.mem_append_left _ hb)
theorem So.right {r r' : List RecO} (h : So (r ++ r')) : So r' := fun b hb => h b (List.mem_append_right _ hb)
theorem So.head {b : Bool} {r : List RecO} (h : So (.b b :: r)) : b = true := h (.b b) List.mem_cons_self
theorem So.tail {b : RecO} {r : List RecO} (h : So (b :: r)) : So r := fun c hc => h c (List.mem_cons_of_mem _ hc)
theorem so_of : ∀ {r : List RecO}, bools r = true → lefts r = rights r → So r
 | [], _, _ => fun x hx => by cases hx
 | .b x :: r, h, k => by
  simp only [bools, Bool.and_eq_true] at h
  intro y hy
  rcases List.mem_cons.1 hy with rfl | hy
  ·exact h.1
  ·exact so_of h.2 (by simpa [lefts, rights] using k) y hy
 | .eq v w :: r, h, k => by
  simp only [lefts, rights, List.cons.injEq] at k
  intro y hy
  rcases List.mem_cons.1 hy with rfl | hy
  ·exact k.1
  ·exact so_of (by simpa [bools] using h) k.2 y hy
theorem loadRec_ok {o : Oper} {tm : T Value} {id : Nat} {H : Hp} {v : Value} (h : So (loadRec cx o tm id H v)) : sameLoad cx o tm id H v = true := by
 unfold loadRec at h
 unfold sameLoad
 split at h
 ·rename_i v' H1 he
  rw [he]
  have h1 : v = v' := h (.eq v v') List.mem_cons_self
  have h2 : eqable 60 v = true := h.tail.head
  subst h1
  exact valEq_refl _ _ h2
 ·exact absurd h.head (by simp)
theorem loads_ok {α : Type} (l : List α) (t : α → Bool) (f : α → List RecO) (g : α → Bool) (hfg : ∀ a, So (f a) → g a = true) (h : So (l.flatMap fun a => bif t a then [] else f a)) : l.all (fun a => t a || g a) = true := by
 rw [List.all_eq_true]
 intro a ha
 cases ht : t a with
 | true => rfl
 | false =>
  rw [Bool.false_or]
  refine hfg a (fun x hx => h x ?_)
  rw [List.mem_flatMap]
  exact ⟨a, ha, by rw [ht]; exact hx⟩
variable {hk : Hook}
def OkO (KO : CallerO) (K : Caller) : Prop := ∀ f args H nx p v H' nx' p' r, KO f args H nx p = some (v, H', nx', p', r) → So r → K f args H nx = some (v, H', nx')
theorem evOpO_ok (hh : HookOk cx hk) {ρ : Operand → Value} {o : Oper} {id : Nat} {H : Hp} {p : List Bool} {a : ANext} {H' : Hp} {p' : List Bool} {r : List RecO} (h : evOpO cx hk ρ o id H p = some (a, H', p', r)) (hs : So r) : evOp cx ρ o id H = some (a, H') := by
 unfold evOpO at h
 split at h
 ·rename_i c x y ho
  split at h
  ·rename_i t q p1 hc
   cases h
   have ht : t = q := by have := hs.head; simpa using this
   subst ht
   unfold evOp
   rw [ho]
   simp only [hc, rval]
   cases t <;> rfl
  ·cases h
 ·split at h
  ·split at h
   ·split at h
    ·cases h
    ·rename_i a' H1 he
     cases h
     exact he
   ·split at h
    ·rename_i v H1 p2 b hb
     cases h
     have hb1 : b = true := hs.head
     subst hb1
     exact hh.1 _ _ _ _ _ _ _ _ hb
    ·cases h
   ·cases h
  ·split at h
   ·rename_i v H1 p2 b hb
    cases h
    have hb1 : b = true := hs.head
    subst hb1
    exact hh.1 _ _ _ _ _ _ _ _ hb
   ·split at h
    ·cases h
    ·rename_i a' H1 he
     cases h
     exact he
theorem evFullO_ok (hh : HookOk cx hk) {KO : CallerO} {K : Caller} (hK : OkO KO K) {ρ : Operand → Value} {o : Oper} {H : Hp} {nx : Nat} {p : List Bool} {v : Value} {H' : Hp} {nx' : Nat} {p' : List Bool} {r : List RecO}
  (h : evFullO cx hk KO ρ o H nx p = some (v, H', nx', p', r)) (hs : So r) : evFull cx K ρ o H nx = some (v, H', nx') := by
 unfold evFullO at h
 unfold evFull
 split at h
 ·cases h
 ·rename_i he; cases h; rw [evOpO_ok hh he hs]
 ·rename_i he; cases h; rw [evOpO_ok hh he hs]
 ·rename_i f args H1 p1 r1 he
  split at h
  ·cases h
  ·rename_i v2 H2 n2 p2 r2 hk
   cases h
   rw [evOpO_ok hh he hs.left]
   exact hK _ _ _ _ _ _ _ _ _ _ hk hs.right
theorem wantedO_g {o : Oper} {ops : Array Oper} {tm : T Value} {p p' : List Bool} {r : List RecO} {b : Bool} (h : wantedO o ops tm p = some (b, p', r)) : guardOk ops tm o = true := by
 unfold wantedO at h
 split at h
 ·rename_i hg; unfold guardOk; rw [hg]
 ·split at h
  ·cases h
  ·assumption
theorem wantedO_ok {o : Oper} {ops : Array Oper} {tm : T Value} {p p' : List Bool} {r : List RecO} {b : Bool} (h : wantedO o ops tm p = some (b, p', r)) (hs : So r) : wantedT o ops tm = b := by
 unfold wantedO at h
 unfold wantedT
 split at h
 ·rename_i hg; cases h; rw [hg]
 ·rename_i j want hg
  rw [hg]
  simp only
  split at h
  ·cases h
  split at h
  ·rename_i hy; cases h; rw [hy]
  ·rename_i c hy
   split at h
   ·rename_i q p1
    cases h
    have : c = q := by have := hs.head; simpa using this
    subst this
    rw [hy]
   ·cases h
theorem evOpsO_ok (hh : HookOk cx hk) {KO : CallerO} {K : Caller} (hK : OkO KO K) (ops : Array Oper) (nt : Nat) : ∀ (l : List Oper) (s : St) (p : List Bool) (s' : St) (p' : List Bool) (r : List RecO), evOpsO cx hk KO ops nt l s p = some (s', p', r) → So r → evOps cx K ops nt l s = some s'
 | [], s, p, s', p', r, h, hs => by simp only [evOpsO] at h; cases h; rfl
 | o :: rest, s, p, s', p', r, h, hs => by
  simp only [evOpsO] at h
  simp only [evOps]
  split at h
  ·cases h
  ·rename_i p1 r1 hw
   split at h
   ·cases h
   ·rename_i tm hp
    split at h
    ·cases h
    ·rename_i s2 p2 r2 hr
     cases h
     rw [wantedO_g hw]; simp only; rw [wantedO_ok hw hs.left]
     simp only [hp]
     exact evOpsO_ok hh hK ops nt rest _ _ _ _ _ hr hs.right
  ·rename_i p1 r1 hw
   split at h
   ·cases h
   ·rename_i hc
    split at h
    ·cases h
    ·rename_i v H nx p2 r2 hf
     split at h
     ·cases h
     ·rename_i tm hp
      split at h
      ·cases h
      ·rename_i s2 p3 r3 hr
       cases h
       rw [wantedO_g hw]; simp only; rw [wantedO_ok hw hs.left]
       simp only [hc, evFullO_ok hh hK hf hs.right.left, hp]
       exact evOpsO_ok hh hK ops nt rest _ _ _ _ _ hr hs.right.right
theorem drStepO_ok (hh : HookOk cx hk) {KO : CallerO} {K : Caller} (hK : OkO KO K) {ops : Array Oper} {nt : Nat} {preds : Array Nat} {base j : Nat} {o : Oper} {s s' : Dr} {p p' : List Bool} {r : List RecO}
  (h : drStepO cx hk KO ops nt preds base j o s p = some (s', p', r)) (hs : So r) : drStep cx K ops nt preds base j o s = some s' := by
 unfold drStepO at h
 unfold drStep
 simp only at h ⊢
 have fin : ∀ (v : Value) (F : T Value → Dr) (p1 : List Bool) (r1 : List RecO), (match putT s.tm nt o.dst v with | none => none | some tm => some (F tm, p1, r1)) = some (s', p', r) →
   r1 = r ∧ (match putT s.tm nt o.dst v with | none => none | some tm => some (F tm)) = some s' := by
  intro v F p1 r1 q
  split at q
  ·cases q
  ·rename_i tm ht; cases q; exact ⟨rfl, rfl⟩
 split at h
 ·cases h
 ·rename_i p1 r1 hw
  obtain ⟨rfl, e⟩ := fin _ (fun tm => { s with tm }) _ _ h
  rw [wantedO_g hw]; simp only; rw [wantedO_ok hw hs]
  exact e
 ·rename_i p1 r1 hw
  split at h
  ·cases h
  ·rename_i hc
   split at h
   ·rename_i hcat
    split at h
    ·rename_i v H1 p2 r2 he
     obtain ⟨rfl, e⟩ := fin _ (fun tm => { s with tm }) _ _ h
     rw [wantedO_g hw]; simp only; rw [wantedO_ok hw hs.left]
     simp only [hc, hcat, evOpO_ok hh he hs.right]
     exact e
    ·cases h
   ·rename_i hcat
    split at h
    ·rename_i v H1 he
     split at h
     ·rename_i ob hob
      obtain ⟨rfl, e⟩ := fin v (fun tm => { s with tm, all := (j, base + j, ob) :: s.all }) _ _ h
      rw [wantedO_g hw]; simp only; rw [wantedO_ok hw hs]
      simp only [hc, hcat, he, hob]
      exact e
     ·cases h
    ·cases h
   ·rename_i hcat
    split at h
    ·rename_i v H1 p2 r2 he
     obtain ⟨rfl, e⟩ := fin v (fun tm => { s with tm, loads := (j, o, s.tm, v) :: s.loads }) _ _ h
     rw [wantedO_g hw]; simp only; rw [wantedO_ok hw hs.left]
     simp only [hc, hcat, evOpO_ok hh he hs.right.left, loads_ok _ _ _ _ (fun a ha => loadRec_ok ha) hs.right.right]
     exact e
    ·cases h
   ·rename_i hcat
    split at h
    ·cases h
    ·rename_i hl
     split at h
     ·cases h
     ·rename_i v H1 nx1 p2 r2 he
      obtain ⟨rfl, e⟩ := fin v (fun tm => { s with tm, G := H1, nx := nx1, stages := (j, s.G) :: s.stages }) _ _ h
      rw [wantedO_g hw]; simp only; rw [wantedO_ok hw hs.left]
      simp only [hc, hcat, hl, evFullO_ok hh hK he hs.right.left, loads_ok _ _ _ _ (fun a ha => loadRec_ok ha) hs.right.right]
      exact e
theorem drOpsO_ok (hh : HookOk cx hk) {KO : CallerO} {K : Caller} (hK : OkO KO K) {ops : Array Oper} {nt : Nat} {preds : Array Nat} {base : Nat} : ∀ (l : List (Oper × Nat)) (s : Dr) (p : List Bool) (s' : Dr) (p' : List Bool) (r : List RecO),
  drOpsO cx hk KO ops nt preds base l s p = some (s', p', r) → So r → drOps cx K ops nt preds base l s = some s'
 | [], s, p, s', p', r, h, hs => by simp only [drOpsO] at h; cases h; rfl
 | (o, j) :: rest, s, p, s', p', r, h, hs => by
  simp only [drOpsO] at h
  simp only [drOps]
  split at h
  ·cases h
  ·rename_i s1 p1 r1 h1
   split at h
   ·cases h
   ·rename_i s2 p2 r2 h2
    cases h
    rw [drStepO_ok hh hK h1 hs.left]
    exact drOpsO_ok hh hK rest _ _ _ _ _ h2 hs.right
theorem evDrawO_ok (hh : HookOk cx hk) {KO : CallerO} {K : Caller} (hK : OkO KO K) {ops : Array Oper} {nt : Nat} {s s' : St} {p p' : List Bool} {r : List RecO} (h : evDrawO cx hk KO ops nt s p = some (s', p', r)) (hs : So r) : evDraw cx K ops nt s = some s' := by
 unfold evDrawO at h
 unfold evDraw
 simp only at h ⊢
 split at h
 ·cases h
 ·rename_i hd
  split at h
  ·cases h
  ·rename_i d p1 r1 h1
   cases h
   rw [hd]
   simp only [drOpsO_ok hh hK _ _ _ _ _ _ h1 hs]
theorem evCodeO_ok (hh : HookOk cx hk) {KO : CallerO} {K : Caller} (hK : OkO KO K) (nt : Nat) : ∀ (n : Nat) (c : Code) (s : St) (p : List Bool) (e : AExit) (s' : St) (p' : List Bool) (r : List RecO), evCodeO cx hk KO nt n c s p = some (e, s', p', r) → So r → evCode cx K nt n c s = some (e, s')
 | 0, c, s, p, e, s', p', r, h, hs => by simp only [evCodeO] at h; cases h
 | n + 1, c, s, p, e, s', p', r, h, hs => by
  have ih := evCodeO_ok hh hK nt n
  simp only [evCodeO] at h
  simp only [evCode]
  split at h
  ·cases h; rfl
  ·cases h; rfl
  ·split at h
   ·cases h
   ·rename_i s1 p1 r1 h1
    cases h
    simp only [evOpsO_ok hh hK _ _ _ _ _ _ _ _ h1 hs]
  ·split at h
   ·cases h
   ·rename_i s1 p1 r1 h1
    cases h
    simp only [evDrawO_ok hh hK h1 hs]
  ·rename_i a b
   split at h
   ·cases h
   ·rename_i s1 p1 r1 h1
    split at h
    ·cases h
    ·rename_i e2 s2 p2 r2 h2
     cases h
     simp only [ih _ _ _ _ _ _ _ h1 hs.left]
     exact ih _ _ _ _ _ _ _ h2 hs.right
   ·rename_i e1 s1 p1 r1 hne h1
    cases h
    simp only [ih _ _ _ _ _ _ _ h1 hs]
    cases e <;> first | rfl | exact (hne rfl).elim | exact (hne _ rfl).elim
  ·rename_i x a b
   split at h
   ·cases h
   ·rename_i ho
    split at h
    ·rename_i t q p1 he
     split at h
     ·cases h
     ·rename_i e2 s2 p2 r2 h2
      cases h
      have : t = q := by have := hs.head; simpa using this
      subst this
      simp only [ho, he]
      have := ih _ _ _ _ _ _ _ h2 hs.tail
      cases t <;> exact this
    ·cases h
  ·rename_i id b
   split at h
   ·cases h
   ·rename_i k s1 p1 r1 h1
    split at h
    ·rename_i hk
     cases h
     simp only [ih _ _ _ _ _ _ _ h1 hs, hk, if_true]
    ·rename_i hk
     cases h
     simp only [ih _ _ _ _ _ _ _ h1 hs, hk, if_false]
   ·rename_i e1 s1 p1 r1 hne h1
    cases h
    simp only [ih _ _ _ _ _ _ _ h1 hs]
    cases e <;> first | rfl | exact (hne rfl).elim | exact (hne _ rfl).elim
  ·rename_i b
   split at h
   ·cases h
   ·rename_i s1 p1 r1 h1
    split at h
    ·cases h
    ·rename_i e2 s2 p2 r2 h2
     cases h
     simp only [ih _ _ _ _ _ _ _ h1 hs.left]
     exact ih _ _ _ _ _ _ _ h2 hs.right
   ·rename_i e1 s1 p1 r1 hne h1
    cases h
    simp only [ih _ _ _ _ _ _ _ h1 hs]
    cases e <;> first | rfl | exact (hne rfl).elim | exact (hne _ rfl).elim
  ·cases h; rfl
  ·cases h; rfl
  ·cases h
theorem evFuncO_ok (hh : HookOk cx hk) : ∀ n, OkO (evFuncO cx hk n) (evFunc cx n)
 | 0 => fun f args H nx p v H' nx' p' r h => by simp only [evFuncO] at h; cases h
 | n + 1 => fun f args H nx p v H' nx' p' r h hs => by
  have ih := evFuncO_ok hh n
  simp only [evFuncO] at h
  simp only [evFunc]
  split at h
  ·rename_i a ha
   split at h
   ·rename_i v1 H1 n1 b1 hv
    cases h
    have hb : b1 = true := hs.head
    subst hb
    obtain ⟨g, h1, h2⟩ := hh.2 _ _ _ _ _ _ _ _ ha hv
    rw [h1]
    exact h2
   ·cases h
  rename_i hasrt
  split at h
  ·rename_i g hg
   split at h
   ·cases h
   ·rename_i hv
    cases h
    rw [hg]
    exact hv
  ·rename_i hg
   rw [hg]
   simp only
   split at h
   ·cases h
   ·rename_i fn hfn
    rw [hfn]
    simp only
    split at h
    ·cases h
    ·rename_i c hc
     rw [hc]
     simp only
     split at h
     ·cases h
     ·cases h
     ·rename_i e s p1 r1 hne he
      split at h
      ·cases h
      ·rename_i l hl
       cases h
       rw [evCodeO_ok hh ih _ _ _ _ _ _ _ _ _ he hs]
       cases e with
       | exit k => exact (hne _ rfl).elim
       | normal => simp only [hl]
       | ret => simp only [hl]
variable {cx : Cx}
def fop (k : FloatKind) : BinOp → Option (Nat → Nat → Option Nat)
 | .add => some k.format.add
 | .sub => some k.format.sub
 | .mul => some k.format.mul
 | .quo => some k.format.div
 | _ => none
def fval (r : Option Nat) : Nat := r.getD 0
def f2i (s : FloatKind) (b : Nat) : Int := ((s.decode b).toInt .zero).getD 0
def f2iOk (s : FloatKind) (b : Nat) (k : IntKind) : Bool := ((s.decode b).toInt .zero).isSome && decide (k.min ≤ f2i s b ∧ f2i s b ≤ k.max)
def fround (way : Ieee.Toward) (x : Nat) : Nat := FloatKind.f64.encode ((FloatKind.f64.decode x).integral way)
def froundOk (x : Nat) : Bool := match FloatKind.f64.decode x with
 | .nan _ _ => false
 | _ => true
def bnd (v : Option Value) (d y : Nat) : Option (Nat × Bool) :=
 match v with
 | none => some (d, true)
 | some (.int _ n) => some (n.toNat, decide (0 ≤ n) && decide (n ≤ (y : Int)))
 | _ => none
def hook0 (cx : Cx) (ext : FuncId → Array Value → Option (Value × Bool)) (o : Oper) (ρ : Operand → Value) : Option (Value × Bool) :=
 match o.op with
 | .slice t x lo hi mx => match cx.und t, ρ x, mx with
  | some .string, .string s, none => match bnd (hi.map ρ) s.size s.size with
   | none => none
   | some (h, c1) => match bnd (lo.map ρ) 0 h with
    | none => none
    | some (l, c2) => some (.string (s.extract l h), c1 && c2)
  | _, _, _ => none
 | .binOp op _ x y _ => match ρ x, ρ y with
  | .float k a, .float k' b => match decide (k = k'), fop k op with
   | true, some g => some (.float k (fval (g a b)), (g a b).isSome)
   | _, _ => none
  | .int k a, .int k' b => match decide (k = k'), op with
   | true, .quo => some (.int k (k.wrap (a.tdiv b)), !(b == 0))
   | true, .rem => some (.int k (a.tmod b), !(b == 0))
   | _, _ => none
  | .string a, .string b => match op with
   | .add => some (.string (a ++ b), decide (((a.size + b.size : Nat) : Int) ≤ IntKind.i64.max))
   | _ => none
  | _, _ => none
 | .convert src dst x => match cx.und src, cx.und dst, ρ x with
  | some (.float _), some (.int k), .float s b => some (.int k (f2i s b), f2iOk s b k)
  | _, _, _ => none
 | .index t x i => match cx.und t, ρ x, ρ i with
  | some .string, .string s, .int k n => some (.int .u8 ((s[n.toNat]?).getD 0).toNat, decide (0 ≤ n) && (s[n.toNat]?).isSome)
  | _, _, _ => none
 | .call c => match c.callee with
  | .value f => match ρ f with
   | .func (.func k) first captured => match first.isEmpty && captured.isEmpty with
    | true => ext k (c.args.map ρ)
    | false => none
   | _ => none
  | _ => none
 | _ => none
def isS {α : Type} (o : Option α) : Bool := match o with
 | some _ => true
 | none => false
def newL (size n : Nat) (x : Value) (H : Hp) : List Value := match srcCells size n x H with
 | some l => l
 | none => []
def newOk (n size bytes sLen sCap : Nat) (src : Option (List Value)) (new : List Value) : Bool :=
 isS src && ((Nat.beq new.length (Nat.mul n size) && new.all oneCell) && ((!(Nat.ble (Nat.add sLen n) sCap)) &&
  (Nat.ble (Nat.mul (Nat.add (Nat.mul 2 (Nat.add sLen n)) 1000) bytes) 140737488355328 && Nat.ble 1 bytes && Nat.ble (Nat.add sLen n) 4611686018427387904)))
def growOk (n size bytes sLen sCap o nb : Nat) (src : Option (List Value)) (new : List Value) (old : Option (List Value)) : Bool :=
 newOk n size bytes sLen sCap src new && (Nat.beq (Nat.add o (Nat.mul sLen size)) nb && isS old)
def appendH (cx : Cx) (argTypes : Array TypeId) (args : Array Value) (id : Nat) (H : Hp) : Option (Value × Hp × Bool) :=
 match argTypes[0]?, (args[0]? : Option Value), args[1]? with
 | some st, some (.slice base sLen sCap), some x =>
  match cx.und st with
  | some (.slice elem) => match cx.info elem, lenV x with
   | some ei, some n => match notInt cx argTypes[1]? && zeroFits ei with
    | false => none
    | true => match base with
     | none => match Nat.beq sLen 0 with
      | false => none
      | true => some (.slice (some ⟨id, 0, none⟩) (Nat.add sLen n) (Nat.add sLen n), H.set id (mkCells id elem ei.size false (newL ei.size n x H)),
       newOk n ei.size ei.bytes sLen sCap (srcCells ei.size n x H) (newL ei.size n x H))
     | some ⟨b, o, none⟩ => match H.get b with
      | none => none
      | some ob => match ob.dat with
       | some (.cells nb cs) => match ob.exact, Nat.beq o 0, Nat.beq ob.esz ei.size && Nat.ble cx.lo b && Nat.beq ob.elem elem with
        | false, true, true => match growKin H ob.root id (fun m => Nat.ble m b) with
         | none => none
         | some H2 => some (.slice (some ⟨id, 0, none⟩) (Nat.add sLen n) (Nat.add sLen n), H2.set id (grownObj elem ei.size ob.root (Nat.add (Nat.mul sLen ei.size) (newL ei.size n x H).length) (cs.setList (Nat.mul sLen ei.size) (newL ei.size n x H))),
          growOk n ei.size ei.bytes sLen sCap o nb (srcCells ei.size n x H) (newL ei.size n x H) (loadOld H b o (Nat.mul sLen ei.size)))
        | _, _, _ => none
       | _ => none
     | _ => none
   | _, _ => none
  | _ => none
 | _, _, _ => none
def strAt (H : Hp) (b o len : Nat) : ByteArray := match loadN H b o len with
 | none => ByteArray.empty
 | some l => match bytesOf l ByteArray.empty with
  | none => ByteArray.empty
  | some s => s
def strOk (H : Hp) (b o len : Nat) : Bool := match loadN H b o len with
 | none => false
 | some l => isS (bytesOf l ByteArray.empty)
def convertH (cx : Cx) (src dst : TypeId) (x : Value) (H : Hp) : Option (Value × Bool) :=
 match cx.und src, cx.und dst, x with
 | some (.slice e), some .string, .slice (some ⟨b, o, none⟩) len _ => match cx.und e with
  | some (.int .u8) => some (.string (strAt H b o len), (!(Nat.beq len 0)) && strOk H b o len)
  | _ => none
 | _, _, _ => none
def missAll (kd : TypeDesc) (k : Value) : List MapEntry → Bool
 | [] => true
 | e :: r => shut e.key && ((match Instr.sameNow kd k e.key with
  | some false => true
  | _ => false) && missAll kd k r)
def lookupH (cx : Cx) (t : TypeId) (x k : Value) (commaOk : Bool) (H : Hp) : Option (Value × Bool) :=
 match cx.und t with
 | some (.map kt elem) => match cx.und kt, shut k with
  | some kd, true => match mapEs x H with
   | none => none
   | some es => match pureRun cx.P (Instr.checkKey es.isEmpty 10000 kt k) with
    | none => none
    | some _ => match cx.info elem with
     | none => none
     | some i => match i.zero with
      | none => none
      | some z => some (if commaOk then .tuple #[z, .bool false] else z, missAll kd k es)
  | _, _ => none
 | _ => none
def nthS : List Value → Nat → ByteArray
 | .string s :: _, 0 => s
 | _ :: r, k + 1 => nthS r k
 | _, _ => ByteArray.empty
def isNthS : List Value → Nat → Bool
 | .string _ :: _, 0 => true
 | _ :: r, k + 1 => isNthS r k
 | _, _ => false
def indexAddrH (cx : Cx) (t : TypeId) (x ix : Value) : Option (Value × Bool) :=
 match cx.und t, x, ix with
 | some (.slice elem), .slice (some ⟨b, o, none⟩) len _, .int _ n => match cx.info elem with
  | none => none
  | some j => some (addrV b (Nat.add o (Nat.mul n.toNat j.size)), decide (0 ≤ n) && decide (n.toNat < len))
 | _, _, _ => none
def loadSH (cx : Cx) (t : TypeId) (a : Value) (H : Hp) : Option (Value × Bool) :=
 match cx.und t with
 | some .string => match asPtr a with
  | none => none
  | some (b, o) => match H.get b with
   | none => none
   | some ob => match ob.dat with
    | some (.cells m cs) => match readN cs 0 m with
     | none => none
     | some L => some (.string (nthS L o), isNthS L o)
    | _ => none
 | _ => none
def hook (cx : Cx) (ext : FuncId → Array Value → Option (Value × Bool)) : Hook := fun o ρ id H p =>
 match hook0 cx ext o ρ with
 | some (v, b) => some (v, H, p, b)
 | none => match o.op with
  | .call c => match c.callee with
   | .builtin .append => match appendH cx c.argTypes (c.args.map ρ) id H with
    | some (v, H', b) => some (v, H', p, b)
    | none => none
   | _ => none
  | .convert s d x => match convertH cx s d (ρ x) H with
   | some (v, b) => some (v, H, p, b)
   | none => none
  | .lookup t x k ok => match lookupH cx t (ρ x) (ρ k) ok H with
   | some (v, b) => some (v, H, p, b)
   | none => none
  | .indexAddr t x i => match indexAddrH cx t (ρ x) (ρ i) with
   | some (v, b) => some (v, H, p, b)
   | none => none
  | .load t a => match loadSH cx t (ρ a) H with
   | some (v, b) => some (v, H, p, b)
   | none => none
  | _ => none
theorem closedRun_val {ρ : Operand → Value} {o : Oper} {H : Hp} {v : Value} (h1 : o.op.operands.toList.all (fun x => shut (ρ x)) = true) (h2 : pureRun cx.P (execOp ρ o) = some (.value v)) (h3 : shut v = true) : closedRun cx ρ o H = some (.val v, H) := by
 unfold closedRun
 rw [h1, h2]
 simp only [h3, rval]
def ExtOk (cx : Cx) (ext : FuncId → Array Value → Option (Value × Bool)) : Prop := ∀ k args v, ext k args = some (v, true) →
 args.toList.all shut = true ∧ shut v = true ∧ (∀ H, aCallFunc cx k args H = none) ∧ pureRun cx.P (callFunc k args) = some (.value v)
variable {cx : Cx}
theorem pureRun_bind {α β : Type} (P : Program) (s : Sem α) (k : α → Sem β) : pureRun P (s >>= k) = (pureRun P s).bind fun a => pureRun P (k a) := by
 induction s with
 | pure a => rfl
 | program f ih => exact ih P
 | mark m f ih => exact ih
 | choose q f ih =>
  show (if q.forced then pureRun P (f 0 >>= k) else none) = (if q.forced then pureRun P (f 0) else none).bind _
  split
  ·exact ih 0
  ·rfl
 | _ => rfl
theorem pureRun_pure {α : Type} (P : Program) (a : α) : pureRun P (pure a : Sem α) = some a := rfl
theorem pureRun_ite {α : Type} (P : Program) (c : Prop) [Decidable c] (s t : Sem α) : pureRun P (if c then s else t) = if c then pureRun P s else pureRun P t := by split <;> rfl
theorem pureRun_und (hc : CxOk cx) {t : TypeId} {d : TypeDesc} (e : cx.und t = some d) : pureRun cx.P (underlying t) = some d := by
 have : pureRun cx.P (underlying t) = (match cx.P.underlying t with | some d => some d | none => none) := by
  show pureRun cx.P (match cx.P.underlying t with | some d => pure d | none => stuck "no such type") = _
  cases cx.P.underlying t <;> rfl
 rw [this, hc.und e]
theorem pureRun_map {α β : Type} (P : Program) (f : α → β) (s : Sem α) : pureRun P (f <$> s) = (pureRun P s).map f := by
 rw [map_eq_pure_bind, pureRun_bind]
 cases pureRun P s <;> rfl
theorem bnd_spec {v : Option Value} {d y n : Nat} (h : bnd v d y = some (n, true)) (c : BoundsCode) :
  (v = none ∧ n = d) ∨ ∃ u, v = some u ∧ shut u = true ∧ pureRun cx.P (Instr.sliceBound u y c) = some n := by
 unfold bnd at h
 split at h
 ·cases h; exact .inl ⟨rfl, rfl⟩
 ·rename_i k m
  simp only [Option.some.injEq, Prod.mk.injEq, Bool.and_eq_true, decide_eq_true_eq] at h
  obtain ⟨rfl, h⟩ := h
  refine .inr ⟨_, rfl, rfl, ?_⟩
  simp only [Instr.sliceBound, asIntOf, pureRun_bind, pureRun_pure, Option.bind_some, h, and_self, if_true]
 ·cases h
theorem hook0_ok (hc : CxOk cx) {ext : FuncId → Array Value → Option (Value × Bool)} (he : ExtOk cx ext) : ∀ o ρ v, hook0 cx ext o ρ = some (v, true) → ∀ id H, evOp cx ρ o id H = some (.val v, H) := by
 intro o ρ v h id H
 unfold hook0 at h
 split at h
 ·rename_i t x lo hi mx ho
  split at h
  ·rename_i s hu hx
   split at h
   ·cases h
   ·rename_i hh c1 h1
    split at h
    ·cases h
    ·rename_i l c2 h2
     simp only [Option.some.injEq, Prod.mk.injEq, Bool.and_eq_true] at h
     obtain ⟨rfl, rfl, rfl⟩ := h
     have hcl := closedRun_val (cx := cx) (ρ := ρ) (o := o) (H := H) (v := .string (s.extract l hh)) ?_ ?_ rfl
     ·unfold evOp
      rw [ho]
      simp only [hx]
      exact hcl
     ·rw [ho]
      rcases bnd_spec (cx := cx) h1 .sliceB with ⟨e1, _⟩ | ⟨u1, e1, s1, _⟩ <;> rcases bnd_spec (cx := cx) h2 .sliceB with ⟨e2, _⟩ | ⟨u2, e2, s2, _⟩ <;> cases hi <;> cases lo <;> simp at e1 e2 <;> subst_vars <;> simp [Op.operands, hx, *] <;> rfl
     ·unfold execOp
      rw [ho]
      simp only [hx]
      have e1 := pureRun_und hc hu
      rcases bnd_spec (cx := cx) h1 .sliceAlen with ⟨q1, rfl⟩ | ⟨u1, q1, s1, r1⟩ <;> rcases bnd_spec (cx := cx) h2 .sliceB with ⟨q2, rfl⟩ | ⟨u2, q2, s2, r2⟩ <;> cases hi <;> cases lo <;> simp at q1 q2 <;> subst_vars <;>
       simp [Instr.sliceAt, Instr.slice, Instr.sliceBounds, pureRun_map, pureRun_bind, pureRun_pure, e1, *]
  ·cases h
 ·rename_i op t x y b ho
  have hclosed : ∀ (r : Value), (shut (ρ x) = true) → (shut (ρ y) = true) → pureRun cx.P (execOp ρ o) = some (.value r) → shut r = true → evOp cx ρ o id H = some (.val r, H) := by
   intro r hx hy hp hr
   have h1 : o.op.operands.toList.all (fun x => shut (ρ x)) = true := by rw [ho]; simp [Op.operands, hx, hy]
   have := closedRun_val (H := H) h1 hp hr
   unfold evOp
   rw [ho]
   simp only
   rw [this]
   rfl
  split at h
  ·rename_i k a k' b hx hy
   split at h
   ·rename_i g hk hg
    have hk := of_decide_eq_true hk
    subst hk
    simp only [Option.some.injEq, Prod.mk.injEq] at h
    obtain ⟨rfl, hs⟩ := h
    refine hclosed _ (by rw [hx]; rfl) (by rw [hy]; rfl) ?_ rfl
    unfold execOp
    rw [ho]
    simp only [hx, hy]
    cases hr : g a b with
    | none => rw [hr] at hs; cases hs
    | some z =>
    cases op <;> simp only [fop, Option.some.injEq, reduceCtorEq] at hg <;> subst hg <;> simp only [eqGuard, binOp, Op.floatArith, pureRun_bind, pureRun_pure, pureRun_ite, Option.bind_some, ne_eq, not_true_eq_false, if_false, hr, Bool.not_false, if_true, fval, Option.getD_some]
   ·cases h
  ·rename_i k a k' b hx hy
   split at h
   ·rename_i hk
    have hk := of_decide_eq_true hk
    subst hk
    simp only [Option.some.injEq, Prod.mk.injEq] at h
    obtain ⟨rfl, hs⟩ := h
    have hb : b ≠ 0 := by simpa using hs
    refine hclosed _ (by rw [hx]; rfl) (by rw [hy]; rfl) ?_ rfl
    unfold execOp
    rw [ho]
    simp only [hx, hy]
    simp only [eqGuard, binOp, Op.intDiv, pureRun_bind, pureRun_pure, pureRun_ite, Option.bind_some, ne_eq, not_true_eq_false, if_false, hb, Bool.not_false, if_true]
   ·rename_i hk
    have hk := of_decide_eq_true hk
    subst hk
    simp only [Option.some.injEq, Prod.mk.injEq] at h
    obtain ⟨rfl, hs⟩ := h
    have hb : b ≠ 0 := by simpa using hs
    refine hclosed _ (by rw [hx]; rfl) (by rw [hy]; rfl) ?_ rfl
    unfold execOp
    rw [ho]
    simp only [hx, hy]
    simp only [eqGuard, binOp, Op.intDiv, pureRun_bind, pureRun_pure, pureRun_ite, Option.bind_some, ne_eq, not_true_eq_false, if_false, hb, Bool.not_false, if_true]
   ·cases h
  ·rename_i a b hx hy
   split at h
   ·simp only [Option.some.injEq, Prod.mk.injEq, decide_eq_true_eq] at h
    obtain ⟨rfl, hs⟩ := h
    refine hclosed _ (by rw [hx]; rfl) (by rw [hy]; rfl) ?_ rfl
    unfold execOp
    rw [ho]
    simp only [hx, hy]
    have hn : ¬ ((a.size + b.size : Nat) : Int) > IntKind.i64.max := by omega
    simp only [eqGuard, binOp, Op.stringOp, pureRun_bind, pureRun_pure, pureRun_ite, Option.bind_some, hn, if_false, Bool.not_false, if_true]
   ·cases h
  ·cases h
 ·rename_i src dst x ho
  split at h
  ·rename_i fk k s b hu1 hu2 hx
   simp only [Option.some.injEq, Prod.mk.injEq] at h
   obtain ⟨rfl, hs⟩ := h
   unfold f2iOk at hs
   simp only [Bool.and_eq_true, decide_eq_true_eq] at hs
   obtain ⟨h1, h2⟩ := hs
   have hr : (s.decode b).toInt .zero = some (f2i s b) := by
    unfold f2i
    cases hq : (s.decode b).toInt .zero with
    | none => rw [hq] at h1; cases h1
    | some n => rfl
   have hcl := closedRun_val (cx := cx) (ρ := ρ) (o := o) (H := H) (v := .int k (f2i s b)) (by rw [ho]; simp [Op.operands, hx]; rfl) ?_ rfl
   ·unfold evOp
    rw [ho]
    simp only [hx]
    exact hcl
   ·unfold execOp
    rw [ho]
    simp only [hx]
    have e1 := pureRun_und hc hu1
    have e2 := pureRun_und hc hu2
    simp only [convert, pureRun_bind, e1, e2, Option.bind_some, Conv.floatToInt, hr, h2, pureRun_pure, and_self, if_true]
  ·cases h
 ·rename_i t x i ho
  split at h
  ·rename_i s k n hu hx hi
   simp only [Option.some.injEq, Prod.mk.injEq, Bool.and_eq_true, decide_eq_true_eq] at h
   obtain ⟨rfl, h1, h2⟩ := h
   have hcl := closedRun_val (cx := cx) (ρ := ρ) (o := o) (H := H) (v := .int .u8 ((s[n.toNat]?).getD 0).toNat) (by rw [ho]; simp [Op.operands, hx, hi]; exact ⟨rfl, rfl⟩) ?_ rfl
   ·unfold evOp
    rw [ho]
    simp only [hx]
    exact hcl
   ·unfold execOp
    rw [ho]
    simp only [hx, hi]
    have e1 := pureRun_und hc hu
    cases hq : s[n.toNat]? with
    | none => rw [hq] at h2; cases h2
    | some z => simp only [Instr.index, asIntOf, pureRun_bind, pureRun_pure, e1, Option.bind_some, h1, if_true, hq, Option.getD_some]
  ·cases h
 ·rename_i c ho
  split at h
  ·rename_i f hcal
   split at h
   ·rename_i k first captured hf
    split at h
    ·rename_i hemp
     simp only [Bool.and_eq_true, Array.isEmpty_iff] at hemp
     obtain ⟨rfl, rfl⟩ := hemp
     obtain ⟨q1, q2, q3, q4⟩ := he _ _ _ h
     have hops : o.op.operands.toList.all (fun x => shut (ρ x)) = true := by
      have hq : o.op.operands = c.operands := by rw [ho]; rfl
      rw [hq]
      unfold Call.operands
      rw [hcal]
      simp only [Array.toList_append, List.all_append, Bool.and_eq_true]
      refine ⟨by simp [hf]; rfl, ?_⟩
      rw [Array.toList_map, List.all_map] at q1
      exact q1
     have hcl := closedRun_val (cx := cx) (ρ := ρ) (o := o) (H := H) (v := v) hops ?_ q2
     ·unfold evOp
      rw [ho]
      simp only [hcal, hf]
      have e : #[] ++ c.args.map ρ ++ #[] = c.args.map ρ := by simp
      rw [e, q3 H]
      exact hcl
     ·unfold execOp
      rw [ho]
      simp only [resolve, hcal, hf]
      have e : #[] ++ c.args.map ρ ++ #[] = c.args.map ρ := by simp
      simp only [Deferred.ofValue, pureRun_bind, pureRun_pure, Option.bind_some, invoke, e]
      exact q4
    ·cases h
   ·cases h
  ·cases h
 ·cases h
theorem newL_eq {size n : Nat} {x : Value} {H : Hp} (h : isS (srcCells size n x H) = true) : srcCells size n x H = some (newL size n x H) := by
 unfold newL
 cases hs : srcCells size n x H with
 | none => rw [hs] at h; cases h
 | some l => rfl
theorem appendH_ok {argTypes : Array TypeId} {args : Array Value} {id : Nat} {H H' : Hp} {v : Value} (h : appendH cx argTypes args id H = some (v, H', true)) : aAppend cx argTypes args id H = some (.val v, H') := by
 unfold appendH at h
 split at h
 ·rename_i st base sLen sCap x h0 a0 a1
  split at h
  ·rename_i elem hu
   split at h
   ·rename_i ei n hi hn
    split at h
    ·cases h
    ·rename_i hk
     split at h
     ·split at h
      ·cases h
      ·rename_i hz
       simp only [newOk, Option.some.injEq, Prod.mk.injEq, Bool.and_eq_true, Bool.not_eq_true'] at h
       obtain ⟨rfl, rfl, h1, ⟨h2, h2'⟩, h3, ⟨h4, h4'⟩, h4''⟩ := h
       simp only [aAppend, h0, a0, a1, hu, hi, hn, hk, newL_eq h1, h2, h2', h3, h4, h4', h4'', Bool.and_self, aAppendOut, hz, fresh, rval]
     ·rename_i b o
      split at h
      ·cases h
      ·rename_i ob hg
       split at h
       ·rename_i nb cs hd
        split at h
        ·rename_i hex ho0 hee
         split at h
         ·cases h
         ·rename_i H2 hgk
          simp only [growOk, newOk, Option.some.injEq, Prod.mk.injEq, Bool.and_eq_true, Bool.not_eq_true'] at h
          obtain ⟨rfl, rfl, ⟨h1, ⟨h2, h2'⟩, h3, ⟨h4, h4'⟩, h4''⟩, h5, h6⟩ := h
          have h6' : ∃ old, loadOld H b o (Nat.mul sLen ei.size) = some old := by
           cases hq : loadOld H b o (Nat.mul sLen ei.size) with
           | none => rw [hq] at h6; cases h6
           | some old => exact ⟨old, rfl⟩
          obtain ⟨old, h6'⟩ := h6'
          simp only [aAppend, h0, a0, a1, hu, hi, hn, hk, newL_eq h1, h2, h2', h3, h4, h4', h4'', Bool.and_self, aAppendOut, hg, hd, h6', hex, aAppendMaybe, hee, h5, hgk, ho0, rval]
        ·cases h
       ·cases h
     ·cases h
   ·cases h
  ·cases h
 ·cases h
theorem findIdx_miss {kt : TypeId} {kd : TypeDesc} {k : Value} : ∀ (es : List MapEntry) (i : Nat), missAll kd k es = true → findIdx cx kt kd k es i = some none
 | [], i, _ => rfl
 | e :: r, i, h => by
  simp only [missAll, Bool.and_eq_true] at h
  obtain ⟨h1, h2, h3⟩ := h
  simp only [findIdx, h1, keySame]
  cases hs : Instr.sameNow kd k e.key with
  | none => rw [hs] at h2; cases h2
  | some b => cases b with
   | true => rw [hs] at h2; cases h2
   | false => exact findIdx_miss r (i + 1) h3
theorem isNthS_ok : ∀ (L : List Value) (k : Nat), isNthS L k = true → L[k]? = some (.string (nthS L k))
 | [], k, h => by cases k <;> simp [isNthS] at h
 | v :: r, 0, h => by cases v <;> simp [isNthS] at h <;> simp [nthS]
 | v :: r, k + 1, h => by
  have e1 : isNthS (v :: r) (k + 1) = isNthS r k := by cases v <;> rfl
  have e2 : nthS (v :: r) (k + 1) = nthS r k := by cases v <;> rfl
  rw [e1] at h
  rw [e2]
  simpa using isNthS_ok r k h
theorem readN_len' : ∀ (n : Nat) (cs : T Value) (o : Nat) (l : List Value), readN cs o n = some l → l.length = n
 | 0, cs, o, l, h => by cases h; rfl
 | n + 1, cs, o, l, h => by
  simp only [readN] at h
  split at h
  ·cases h
  ·split at h
   ·cases h
   ·rename_i l' hl; cases h; simp [readN_len' n _ _ _ hl]
theorem hook_ok (hc : CxOk cx) {ext : FuncId → Array Value → Option (Value × Bool)} (he : ExtOk cx ext) (ha : AsrtOk cx) : HookOk cx (hook cx ext) := by
 refine ⟨?_, ha⟩
 intro o ρ id H p v H' p' h
 unfold hook at h
 split at h
 ·rename_i u b hb
  cases h
  exact hook0_ok hc he o ρ _ hb id _
 ·split at h
  ·rename_i c ho
   split at h
   ·rename_i hcal
    split at h
    ·rename_i u H1 b hb
     cases h
     have := appendH_ok hb
     unfold evOp
     rw [ho]
     simp only [hcal]
     exact this
    ·cases h
   ·cases h
  ·rename_i s d x ho
   split at h
   ·rename_i u b hb
    cases h
    unfold convertH at hb
    split at hb
    ·rename_i e b o len cap hu1 hu2 hx
     split at hb
     ·rename_i hu3
      simp only [Option.some.injEq, Prod.mk.injEq, Bool.and_eq_true, Bool.not_eq_true'] at hb
      obtain ⟨rfl, h1, h2⟩ := hb
      unfold evOp
      rw [ho]
      simp only [hx]
      simp only [aConvert, hu1, hu2, hu3, h1]
      unfold strOk at h2
      unfold strAt
      cases hl : loadN H b o len with
      | none => rw [hl] at h2; cases h2
      | some l =>
       rw [hl] at h2
       simp only at h2 ⊢
       cases hq : bytesOf l ByteArray.empty with
       | none => rw [hq] at h2; cases h2
       | some s => rfl
     ·cases hb
    ·cases hb
   ·cases h
  ·rename_i t x k ok ho
   split at h
   ·rename_i u b hb
    cases h
    unfold lookupH at hb
    split at hb
    ·rename_i kt elem hu
     split at hb
     ·rename_i kd hkd hsh
      split at hb
      ·cases hb
      ·rename_i es hes
       split at hb
       ·cases hb
       ·rename_i u2 hck
        split at hb
        ·cases hb
        ·rename_i i hi
         split at hb
         ·cases hb
         ·rename_i z hz
          simp only [Option.some.injEq, Prod.mk.injEq] at hb
          obtain ⟨rfl, hm⟩ := hb
          unfold evOp
          rw [ho]
          simp only [aLookup, hu, hkd, hsh, hes, hck, findIdx_miss es 0 hm, hi, hz, rval]
     ·cases hb
    ·cases hb
   ·cases h
  ·rename_i t x i ho
   split at h
   ·rename_i u b hb
    cases h
    unfold indexAddrH at hb
    split at hb
    ·rename_i elem b o len cap k n hu hx hi
     split at hb
     ·cases hb
     ·rename_i j hj
      simp only [Option.some.injEq, Prod.mk.injEq, Bool.and_eq_true, decide_eq_true_eq] at hb
      obtain ⟨rfl, h1, h2⟩ := hb
      obtain ⟨m, rfl⟩ : ∃ m : Nat, n = (m : Int) := ⟨n.toNat, by omega⟩
      unfold evOp
      rw [ho]
      simp only [Int.toNat_natCast] at h2
      have hm : isSmallInt (.int k ((m : Nat) : Int)) = some m := rfl
      simp only [hx, hi, aIndexAddr, hu, hm, hj, h2, if_true, rval, Int.toNat_natCast]
    ·cases hb
   ·cases h
  ·rename_i t a ho
   split at h
   ·rename_i u b hb
    cases h
    unfold loadSH at hb
    split at hb
    ·rename_i hu
     split at hb
     ·cases hb
     ·rename_i b o hp
      split at hb
      ·cases hb
      ·rename_i ob hg
       split at hb
       ·rename_i m cs hd
        split at hb
        ·cases hb
        ·rename_i L hL
         simp only [Option.some.injEq, Prod.mk.injEq] at hb
         obtain ⟨rfl, hn⟩ := hb
         have hk := isNthS_ok L o hn
         have hlen := readN_len' _ _ _ _ hL
         have hlt : o < m := by rw [← hlen]; exact (List.getElem?_eq_some_iff.1 hk).1
         obtain ⟨q1, q2⟩ := readN_spec m cs 0 L hL
         have hget := q2 o _ hk
         rw [Nat.zero_add] at hget
         have hb1 : Nat.ble (Nat.add o 1) m = true := Nat.ble_eq_true_of_le hlt
         unfold evOp
         rw [ho]
         simp only [aLoad, hp, Cx.agg, hu, loadN, hg, hd, hb1, if_true, readN, hget, rval]
       ·cases hb
    ·cases hb
   ·cases h
  ·cases h
variable {cx : Cx}
abbrev Intr := FuncId → Option (Array Value → Hp → Nat → Option (Value × Hp × Nat))
theorem Fresh.up {E : Env} {H : Hp} {nx nx' : Nat} (h : Fresh cx E H nx) (le : nx ≤ nx') : Fresh cx E H nx' :=
 ⟨fun i hi => h.env i (Nat.le_trans le hi), fun i hi => h.heap i (Nat.le_trans le hi), Nat.le_trans h.lo le⟩
theorem VR.back {E E' : Env} (le : E.le E') {v u : Value} (h : VR E v u) : ∀ {v' : Value}, VR E' v v' → VR E v v' := by
 induction h with
 | shut d v hc => intro v' k; have := k.shut_eq d hc; subst this; exact .shut d _ hc
 | ptr b o pl hE =>
  intro v' k
  obtain ⟨pl', hE', rfl⟩ := k.ptr_inv
  rw [le _ _ hE] at hE'
  cases hE'
  exact .ptr b o pl hE
 | slice b o l c c' a' pl hE hl hc hx ha hf =>
  intro v' k
  obtain ⟨pl', c2, a2, hE', rfl, k1, k2, k3, k4, k5⟩ := k.slice_inv
  rw [le _ _ hE] at hE'
  cases hE'
  exact .slice b o l c c2 a2 pl hE k1 k2 k3 k4 k5
 | map b pl hE =>
  intro v' k
  obtain ⟨pl', hE', rfl⟩ := k.map_inv
  rw [le _ _ hE] at hE'
  cases hE'
  exact .map b pl hE
 | iface t v u h ih =>
  intro v' k
  obtain ⟨u', rfl, hu⟩ := k.iface_inv
  exact .iface t v u' (ih hu)
 | func f a b a' b' ha hb h1 h2 ih1 ih2 =>
  intro v' k
  obtain ⟨a2, b2, rfl, hA, hB⟩ := k.func_inv
  refine .func f a b a2 b2 hA.1 hB.1 (fun i x x' p q => ?_) (fun i x x' p q => ?_)
  ·have hi : i < a'.size := by rw [← ha]; exact (Array.getElem?_eq_some_iff.1 p).1
   exact ih1 i x _ p (Array.getElem?_eq_getElem hi) (hA.2 i x x' p q)
  ·have hi : i < b'.size := by rw [← hb]; exact (Array.getElem?_eq_some_iff.1 p).1
   exact ih2 i x _ p (Array.getElem?_eq_getElem hi) (hB.2 i x x' p q)
 | agg a a' ha h ih =>
  intro v' k
  obtain ⟨a2, rfl, hA⟩ := k.agg_inv
  refine .agg a a2 hA.1 (fun i x x' p q => ?_)
  have hi : i < a'.size := by rw [← ha]; exact (Array.getElem?_eq_some_iff.1 p).1
  exact ih i x _ p (Array.getElem?_eq_getElem hi) (hA.2 i x x' p q)
 | tuple a a' ha h ih =>
  intro v' k
  obtain ⟨a2, rfl, hA⟩ := k.tuple_inv
  refine .tuple a a2 hA.1 (fun i x x' p q => ?_)
  have hi : i < a'.size := by rw [← ha]; exact (Array.getElem?_eq_some_iff.1 p).1
  exact ih i x _ p (Array.getElem?_eq_getElem hi) (hA.2 i x x' p q)
theorem DatR.back {lo : Nat} {E E' : Env} (le : E.le E') {b : Nat} {o : AObj} {pl : Place} {w w' : World} (h : DatR lo E b o pl w) (k : DatR lo E' b o pl w') : DatR lo E b o pl w' := by
 unfold DatR at h k ⊢
 cases hd : o.dat with
 | none => trivial
 | some d =>
  rw [hd] at h k
  cases d with
  | cells n cs =>
   refine ⟨k.there, k.soft, k.fits, k.esz, k.exact, k.shape, fun i hi => ?_⟩
   obtain ⟨v, u, p, q, r⟩ := h.cell i hi
   obtain ⟨v2, u2, p2, q2, r2⟩ := k.cell i hi
   rw [p] at p2; cases p2
   exact ⟨v, u2, p, q2, r.back le r2⟩
  | map es clock =>
   obtain ⟨ces, p, q⟩ := h
   obtain ⟨ces2, p2, q2⟩ := k
   refine ⟨ces2, p2, q2.1, fun i e e' x y => ?_⟩
   have hi : i < ces.size := by rw [q.1]; exact (List.getElem?_eq_some_iff.1 x).1
   have h1 := q.2 i e _ x (Array.getElem?_eq_getElem hi)
   have h2 := q2.2 i e e' x y
   exact ⟨h1.key.back le h2.key, h1.val.back le h2.val, h2.born⟩
  | strIter s pos => exact k
  | mapIter m since seen st =>
   obtain ⟨m1, p, q, r⟩ := h
   obtain ⟨m2, p2, q2, r2⟩ := k
   exact ⟨m2, p2, q.back le q2, r2⟩
theorem HR.back {B lo : Nat} {E E' : Env} {H : Hp} {w w' : World} (le : E.le E') (h : HR B lo E H w) (k : HR B lo E' H w') : HR B lo E H w' where
 dat b o p := by
  obtain ⟨pl, q, r⟩ := h.dat b o p
  obtain ⟨pl2, q2, r2⟩ := k.dat b o p
  rw [le _ _ q] at q2; cases q2
  exact ⟨pl, q, r.back le r2⟩
 root := k.root
 apart b1 b2 o1 o2 pl1 pl2 p1 p2 d1 d2 l1 lt e1 e2 ecb := k.apart b1 b2 o1 o2 pl1 pl2 p1 p2 d1 d2 l1 lt (le _ _ e1) (le _ _ e2) ecb
 bound b pl q := k.bound b pl (le _ _ q)
 new b pl q := k.new b pl (le _ _ q)
 old b pl q := k.old b pl (le _ _ q)
 base := k.base
def pureI (p : Array Value → Option Value) (c : Nat) : Array Value → Hp → Nat → Option (Value × Hp × Nat) := fun args H nx => match p args with
 | none => none
 | some v => match shut v with
  | true => some (v, H, nx)
  | false => none
theorem pureI_some {p : Array Value → Option Value} {c : Nat} {args : Array Value} {H H' : Hp} {nx nx' : Nat} {v : Value} (h : pureI p c args H nx = some (v, H', nx')) : p args = some v ∧ shut v = true ∧ H' = H ∧ nx' = nx := by
 unfold pureI at h
 cases hp : p args with
 | none => rw [hp] at h; cases h
 | some u =>
  rw [hp] at h
  simp only at h
  cases hs : shut u with
  | false => rw [hs] at h; cases h
  | true => rw [hs] at h; cases h; exact ⟨rfl, hs, rfl, rfl⟩
theorem pureI_mono (p : Array Value → Option Value) (c : Nat) (f : FuncId) : MonoC (fun f' args H nx => if f' = f then pureI p c args H nx else none) := by
 intro f' args H nx v H' nx' h G X ho hX
 by_cases e : f' = f
 ·simp only [e, if_true] at h ⊢
  obtain ⟨h1, h2, rfl, rfl⟩ := pureI_some h
  refine ⟨Nat.le_refl _, Kept.refl _, G, ?_, ho⟩
  unfold pureI
  rw [h1]
  simp only [h2]
 ·simp only [e, if_false] at h; cases h
theorem pureI_sound_of_evF {i j : Intr} (hc : CxOk { cx with intr := j }) (hI : IntrOk { cx with intr := j }) {f : FuncId} {p : Array Value → Option Value} {c : Nat}
  (hg : ∀ args v, p args = some v → ∀ H nx, ∃ n k, evFunc { cx with intr := j } n f args H nx = some (v, H, k)) :
  Sound { cx with intr := i } (fun f' args H nx => if f' = f then pureI p c args H nx else none) := by
 intro f' args H nx v H' nx' h B E w args' hW hr hf hgl har
 by_cases e : f' = f
 ·subst e
  simp only [if_true] at h
  obtain ⟨h1, h2, rfl, rfl⟩ := pureI_some h
  obtain ⟨n, k, h3⟩ := hg args v h1 H' nx'
  refine (ev_sound hc hI n f' args H' nx' v H' k h3 B E w args' hW hr ⟨hf.env, hf.heap, hf.lo⟩ hgl har).mono ?_
  rintro ev w' ⟨v', E', rfl, D⟩
  have hv := D.val.shut_eq 60 (by simpa [shut] using h2)
  subst hv
  exact ⟨v', E, rfl, ⟨VR.of_shut E h2, Env.le_refl _, fun _ _ => rfl, HR.back D.le hr D.hr, D.below, hf, Nat.le_refl _⟩⟩
 ·simp only [e, if_false] at h; cases h
theorem pureI_sound_of_ev {i j : Intr} (hc : CxOk { cx with intr := j }) (hI : IntrOk { cx with intr := j }) {f : FuncId} {p : Array Value → Option Value} {c : Nat}
  (hg : ∀ args v, p args = some v → ∀ H nx, ∃ n k, evFunc { cx with intr := j } n f args H nx = some (v, H, nx + k) ∧ k ≤ c) :
  Sound { cx with intr := i } (fun f' args H nx => if f' = f then pureI p c args H nx else none) :=
 pureI_sound_of_evF hc hI fun args v h H nx => by
  obtain ⟨n, k, h1, _⟩ := hg args v h H nx
  exact ⟨n, nx + k, h1⟩
theorem pureI_sound {i : Intr} {f : FuncId} {p : Array Value → Option Value} {c : Nat}
  (hg : ∀ args args' v B w E, cx.Wp B w → B ≤ w.heap.size → AR E args args' → p args = some v → Calls cx.P f args' w fun e w' => e = .returned v ∧ shut v = true ∧ Below w.heap.size w w') :
  Sound { cx with intr := i } (fun f' args H nx => if f' = f then pureI p c args H nx else none) := by
 intro f' args H nx v H' nx' h B E w args' hW hr hf hgl har
 by_cases e : f' = f
 ·subst e
  simp only [if_true] at h
  obtain ⟨h1, h2, rfl, rfl⟩ := pureI_some h
  refine (hg args args' v B w E hW hr.base har h1).mono ?_
  rintro ev w' ⟨rfl, hs, hb⟩
  exact ⟨v, E, rfl, ⟨VR.of_shut E hs, Env.le_refl _, fun _ _ => rfl, hr.below hb, hb.mono hr.base, hf, Nat.le_refl _⟩⟩
 ·simp only [e, if_false] at h; cases h
theorem orc_run {hk : Hook} (hh : HookOk cx hk) {n : Nat} {f : FuncId} {args : Array Value} {H : Hp} {nx : Nat} {p : List Bool} {v : Value} {H' : Hp} {nx' : Nat} {b : Bool}
  (h : (evFuncO cx hk n f args H nx p).map (fun r => (r.1, r.2.1, r.2.2.1, bools r.2.2.2.2)) = some (v, H', nx', b))
  (he : (evFuncO cx hk n f args H nx p).map (fun r => lefts r.2.2.2.2) = (evFuncO cx hk n f args H nx p).map (fun r => rights r.2.2.2.2)) (hb : b = true) : evFunc cx n f args H nx = some (v, H', nx') := by
 cases hq : evFuncO cx hk n f args H nx p with
 | none => rw [hq] at h; cases h
 | some r =>
  obtain ⟨v1, H1, n1, p1, rs⟩ := r
  rw [hq] at h he
  simp only [Option.map_some, Option.some.injEq, Prod.mk.injEq] at h he
  obtain ⟨rfl, rfl, rfl, h4⟩ := h
  exact evFuncO_ok hh n _ _ _ _ _ _ _ _ _ _ hq (so_of (h4.trans hb) he)
theorem orc_val {hk : Hook} (hh : HookOk cx hk) {n : Nat} {f : FuncId} {args : Array Value} {H : Hp} {nx : Nat} {p : List Bool} {v : Value} {b : Bool}
  (h : (evFuncO cx hk n f args H nx p).map (fun r => (r.1, bools r.2.2.2.2)) = some (v, b))
  (he : (evFuncO cx hk n f args H nx p).map (fun r => lefts r.2.2.2.2) = (evFuncO cx hk n f args H nx p).map (fun r => rights r.2.2.2.2)) (hb : b = true) : ∃ H' nx', evFunc cx n f args H nx = some (v, H', nx') := by
 cases hq : evFuncO cx hk n f args H nx p with
 | none => rw [hq] at h; cases h
 | some r =>
  obtain ⟨v1, H1, n1, p1, rs⟩ := r
  rw [hq] at h he
  simp only [Option.map_some, Option.some.injEq, Prod.mk.injEq] at h he
  obtain ⟨rfl, h4⟩ := h
  exact ⟨H1, n1, evFuncO_ok hh n _ _ _ _ _ _ _ _ _ _ hq (so_of (h4.trans hb) he)⟩
def sel : List Bool → List RecO → List Bool
 | _, [] => []
 | m, .eq _ _ :: r => sel m r
 | [], .b _ :: r => sel [] r
 | true :: m, .b x :: r => x :: sel m r
 | false :: m, .b _ :: r => sel m r
def rest : List Bool → List RecO → Bool
 | _, [] => true
 | m, .eq _ _ :: r => rest m r
 | [], .b x :: r => match x with
  | true => rest [] r
  | false => false
 | true :: m, .b _ :: r => rest m r
 | false :: m, .b x :: r => match x with
  | true => rest m r
  | false => false
theorem bools_of : ∀ (r : List RecO) (m : List Bool), (∀ b ∈ sel m r, b = true) → rest m r = true → bools r = true
 | [], m, _, _ => rfl
 | .eq _ _ :: r, m, h, k => by
  simp only [bools]
  refine bools_of r m (fun b hb => h b ?_) ?_
  ·cases m with
   | nil => simpa [sel] using hb
   | cons c m => cases c <;> simpa [sel] using hb
  ·cases m with
   | nil => simpa [rest] using k
   | cons c m => cases c <;> simpa [rest] using k
 | .b x :: r, m, h, k => by
  simp only [bools, Bool.and_eq_true]
  cases m with
  | nil =>
   simp only [rest] at k
   cases x with
   | false => cases k
   | true => exact ⟨rfl, bools_of r [] (fun b hb => h b (by simpa [sel] using hb)) k⟩
  | cons c m =>
   cases c with
   | true =>
    simp only [sel] at h
    simp only [rest] at k
    exact ⟨h x List.mem_cons_self, bools_of r m (fun b hb => h b (List.mem_cons_of_mem _ hb)) k⟩
   | false =>
    simp only [sel] at h
    simp only [rest] at k
    cases x with
    | false => cases k
    | true => exact ⟨rfl, bools_of r m h k⟩
theorem aN : ∀ b ∈ ([] : List Bool), b = true := fun b h => by cases h
theorem aC {c : Bool} {l : List Bool} (h : c = true) (k : ∀ b ∈ l, b = true) : ∀ b ∈ c :: l, b = true := fun b hb => by
 rcases List.mem_cons.1 hb with rfl | hb
 ·exact h
 ·exact k b hb
theorem C2 {c : Bool} {l : List Bool} (h : c = true) (k : ∀ b ∈ l, b = true) : ∀ b ∈ c :: c :: l, b = true := aC h (aC h k)
theorem C3 {c : Bool} {l : List Bool} (h : c = true) (k : ∀ b ∈ l, b = true) : ∀ b ∈ c :: c :: c :: l, b = true := aC h (C2 h k)
theorem C4 {c : Bool} {l : List Bool} (h : c = true) (k : ∀ b ∈ l, b = true) : ∀ b ∈ c :: c :: c :: c :: l, b = true := aC h (C3 h k)
theorem C5 {c : Bool} {l : List Bool} (h : c = true) (k : ∀ b ∈ l, b = true) : ∀ b ∈ c :: c :: c :: c :: c :: l, b = true := aC h (C4 h k)
theorem C6 {c : Bool} {l : List Bool} (h : c = true) (k : ∀ b ∈ l, b = true) : ∀ b ∈ c :: c :: c :: c :: c :: c :: l, b = true := aC h (C5 h k)
theorem C7 {c : Bool} {l : List Bool} (h : c = true) (k : ∀ b ∈ l, b = true) : ∀ b ∈ c :: c :: c :: c :: c :: c :: c :: l, b = true := aC h (C6 h k)
theorem C8 {c : Bool} {l : List Bool} (h : c = true) (k : ∀ b ∈ l, b = true) : ∀ b ∈ c :: c :: c :: c :: c :: c :: c :: c :: l, b = true := aC h (C7 h k)
theorem orc_sel {hk : Hook} (hh : HookOk cx hk) {n : Nat} {f : FuncId} {args : Array Value} {H : Hp} {nx : Nat} {p m l : List Bool} {v : Value}
  (h1 : (evFuncO cx hk n f args H nx p).map (fun r => sel m r.2.2.2.2) = some l)
  (h2 : (evFuncO cx hk n f args H nx p).map (fun r => (r.1, rest m r.2.2.2.2)) = some (v, true))
  (he : (evFuncO cx hk n f args H nx p).map (fun r => lefts r.2.2.2.2) = (evFuncO cx hk n f args H nx p).map (fun r => rights r.2.2.2.2)) (hl : ∀ b ∈ l, b = true) : ∃ H' nx', evFunc cx n f args H nx = some (v, H', nx') := by
 cases hq : evFuncO cx hk n f args H nx p with
 | none => rw [hq] at h1; cases h1
 | some r =>
  obtain ⟨v1, H1, n1, p1, rs⟩ := r
  rw [hq] at h1 h2 he
  simp only [Option.map_some, Option.some.injEq, Prod.mk.injEq] at h1 h2 he
  obtain ⟨rfl, h4⟩ := h2
  subst h1
  exact ⟨H1, n1, evFuncO_ok hh n _ _ _ _ _ _ _ _ _ _ hq (so_of (bools_of _ _ hl h4) he)⟩
theorem oS {hk : Hook} (hh : HookOk cx hk) {n : Nat} {f : FuncId} {args : Array Value} {H : Hp} {nx : Nat} {p m l : List Bool} {v : Value} (hl : ∀ b ∈ l, b = true) (h1 : (evFuncO cx hk n f args H nx p).map (fun r => sel m r.2.2.2.2) = some l := by kernel_rfl) (h2 : (evFuncO cx hk n f args H nx p).map (fun r => (r.1, rest m r.2.2.2.2)) = some (v, true) := by kernel_rfl) (he : (evFuncO cx hk n f args H nx p).map (fun r => lefts r.2.2.2.2) = (evFuncO cx hk n f args H nx p).map (fun r => rights r.2.2.2.2) := by kernel_rfl) : ∃ H' nx', evFunc cx n f args H nx = some (v, H', nx') := orc_sel hh h1 h2 he hl
theorem orc_sel_run {hk : Hook} (hh : HookOk cx hk) {n : Nat} {f : FuncId} {args : Array Value} {H H' : Hp} {nx nx' : Nat} {p m l : List Bool} {v : Value}
  (h1 : (evFuncO cx hk n f args H nx p).map (fun r => sel m r.2.2.2.2) = some l)
  (h2 : (evFuncO cx hk n f args H nx p).map (fun r => (r.1, r.2.1, r.2.2.1, rest m r.2.2.2.2)) = some (v, H', nx', true))
  (he : (evFuncO cx hk n f args H nx p).map (fun r => lefts r.2.2.2.2) = (evFuncO cx hk n f args H nx p).map (fun r => rights r.2.2.2.2)) (hl : ∀ b ∈ l, b = true) : evFunc cx n f args H nx = some (v, H', nx') := by
 cases hq : evFuncO cx hk n f args H nx p with
 | none => rw [hq] at h1; cases h1
 | some r =>
  obtain ⟨v1, H1, n1, p1, rs⟩ := r
  rw [hq] at h1 h2 he
  simp only [Option.map_some, Option.some.injEq, Prod.mk.injEq] at h1 h2 he
  obtain ⟨rfl, rfl, rfl, h4⟩ := h2
  subst h1
  exact evFuncO_ok hh n _ _ _ _ _ _ _ _ _ _ hq (so_of (bools_of _ _ hl h4) he)
structure PFn where
 f : FuncId
 p : Array Value → Option Value
 c : Nat
def tabI : List PFn → Intr
 | [], _ => none
 | e :: r, f => match Nat.beq f e.f with
  | true => some (pureI e.p e.c)
  | false => tabI r f
def PSound (cx : Cx) (e : PFn) : Prop := ∀ i : Intr, Sound { cx with intr := i } (fun f' args H nx => if f' = e.f then pureI e.p e.c args H nx else none)
theorem tabI_some : ∀ (l : List PFn) {f : FuncId} {g : Array Value → Hp → Nat → Option (Value × Hp × Nat)}, tabI l f = some g → ∃ e ∈ l, f = e.f ∧ g = pureI e.p e.c
 | [], f, g, h => by cases h
 | e :: r, f, g, h => by
  simp only [tabI] at h
  split at h
  ·rename_i hb
   cases h
   exact ⟨e, List.mem_cons_self, Nat.eq_of_beq_eq_true hb, rfl⟩
  ·obtain ⟨e', h1, h2⟩ := tabI_some r h
   exact ⟨e', List.mem_cons_of_mem _ h1, h2⟩
theorem tabI_ok {l : List PFn} (h : ∀ e ∈ l, PSound cx e) : IntrOk { cx with intr := tabI l } where
 sound f g hg := by
  obtain ⟨e, h1, rfl, rfl⟩ := tabI_some l (show tabI l f = some g from hg)
  exact h e h1 (tabI l)
 mono f g hg := by
  obtain ⟨e, h1, rfl, rfl⟩ := tabI_some l (show tabI l f = some g from hg)
  exact pureI_mono _ _ _
theorem psound_of_ev {j : Intr} (hc : CxOk { cx with intr := j }) (hI : IntrOk { cx with intr := j }) {e : PFn}
  (hg : ∀ args v, e.p args = some v → ∀ H nx, ∃ n k, evFunc { cx with intr := j } n e.f args H nx = some (v, H, nx + k) ∧ k ≤ e.c) : PSound cx e :=
 fun i => pureI_sound_of_ev hc hI hg
theorem psound_of_evF {j : Intr} (hc : CxOk { cx with intr := j }) (hI : IntrOk { cx with intr := j }) {e : PFn}
  (hg : ∀ args v, e.p args = some v → ∀ H nx, ∃ n k, evFunc { cx with intr := j } n e.f args H nx = some (v, H, k)) : PSound cx e :=
 fun i => pureI_sound_of_evF hc hI hg
theorem psound_cons {e : PFn} {l : List PFn} (h : PSound cx e) (k : ∀ e ∈ l, PSound cx e) : ∀ e' ∈ e :: l, PSound cx e' := fun e' he => by
 rcases List.mem_cons.1 he with rfl | he
 ·exact h
 ·exact k e' he
theorem psound_nil : ∀ e ∈ ([] : List PFn), PSound cx e := fun e h => by cases h
theorem args_one {args : Array Value} {v : Value} (h : args.toList = [v]) : args = #[v] := by cases args; simp at h; subst h; rfl
theorem args_two {args : Array Value} {v w : Value} (h : args.toList = [v, w]) : args = #[v, w] := by cases args; simp at h; subst h; rfl
theorem args_three {args : Array Value} {u v w : Value} (h : args.toList = [u, v, w]) : args = #[u, v, w] := by cases args; simp at h; subst h; rfl
structure AFn where
 f : FuncId
 val : Array Value → Option Value
 ok : Array Value → Bool
def AFn.pfn (e : AFn) : PFn := { f := e.f, c := 0, p := fun args => match e.val args with
 | none => none
 | some v => match e.ok args with
  | true => some v
  | false => none }
def tabA : List AFn → FuncId → Option (Array Value → Hp → Nat → Option (Value × Hp × Nat × Bool))
 | [], _ => none
 | e :: r, f => match Nat.beq f e.f with
  | true => some fun args H nx => match e.val args with
   | none => none
   | some v => match shut v with
    | true => some (v, H, nx, e.ok args)
    | false => none
  | false => tabA r f
theorem tabA_ok (lp : List PFn) : ∀ (la : List AFn) {f : FuncId} {a : Array Value → Hp → Nat → Option (Value × Hp × Nat × Bool)} {args : Array Value} {v : Value} {H H' : Hp} {nx nx' : Nat}, tabA la f = some a → a args H nx = some (v, H', nx', true) →
  ∃ g, tabI (la.map AFn.pfn ++ lp) f = some g ∧ g args H nx = some (v, H', nx')
 | [], f, a, args, v, H, H', nx, nx', h, _ => by cases h
 | e :: r, f, a, args, v, H, H', nx, nx', h, k => by
  simp only [tabA] at h
  cases hb : Nat.beq f e.f with
  | true =>
   rw [hb] at h
   cases h
   refine ⟨pureI e.pfn.p e.pfn.c, ?_, ?_⟩
   ·show (match Nat.beq f e.f with | true => some (pureI e.pfn.p e.pfn.c) | false => tabI _ f) = _
    rw [hb]
   ·simp only at k
    cases hv : e.val args with
    | none => rw [hv] at k; cases k
    | some u =>
     rw [hv] at k
     simp only at k
     cases hs : shut u with
     | false => rw [hs] at k; cases k
     | true =>
      rw [hs] at k
      simp only [Option.some.injEq, Prod.mk.injEq] at k
      obtain ⟨rfl, rfl, rfl, hk⟩ := k
      unfold pureI AFn.pfn
      simp only [hv, hk, hs]
  | false =>
   rw [hb] at h
   obtain ⟨g, h1, h2⟩ := tabA_ok lp r h k
   refine ⟨g, ?_, h2⟩
   show (match Nat.beq f e.f with | true => some (pureI e.pfn.p e.pfn.c) | false => tabI _ f) = _
   rw [hb]
   exact h1
def withFns (cx : Cx) (la : List AFn) (lp : List PFn) : Cx := { cx with intr := tabI (la.map AFn.pfn ++ lp), asrt := tabA la }
theorem withFns_asrt (la : List AFn) (lp : List PFn) : AsrtOk (withFns cx la lp) := fun f a args H nx v H' nx' h k => tabA_ok lp la h k
theorem Sound.asrt {i : Intr} {A : FuncId → Option (Array Value → Hp → Nat → Option (Value × Hp × Nat × Bool))} {K : Caller} (h : Sound { cx with intr := i } K) : Sound { cx with intr := i, asrt := A } K := by
 intro f args H nx v H' nx' hK B E w args' hW hr hf hg har
 refine (h f args H nx v H' nx' hK B E w args' hW hr ⟨hf.env, hf.heap, hf.lo⟩ hg har).mono ?_
 rintro ev w' ⟨v', E', rfl, D⟩
 exact ⟨v', E', rfl, ⟨D.val, D.le, D.keep, D.hr, D.below, ⟨D.fresh.env, D.fresh.heap, D.fresh.lo⟩, D.up⟩⟩
theorem withFns_intr {la : List AFn} {lp : List PFn} (ha : ∀ e ∈ la, PSound cx e.pfn) (hp : ∀ e ∈ lp, PSound cx e) : IntrOk (withFns cx la lp) where
 sound f g hg := by
  obtain ⟨e, h1, rfl, rfl⟩ := tabI_some _ (show tabI (la.map AFn.pfn ++ lp) f = some g from hg)
  refine Sound.asrt (cx := cx) ?_
  rcases List.mem_append.1 h1 with h1 | h1
  ·obtain ⟨e', h2, rfl⟩ := List.mem_map.1 h1
   exact ha e' h2 _
  ·exact hp e h1 _
 mono f g hg := by
  obtain ⟨e, h1, rfl, rfl⟩ := tabI_some _ (show tabI (la.map AFn.pfn ++ lp) f = some g from hg)
  exact pureI_mono _ _ _
theorem CxOk.withFns (hc : ∀ i : Intr, CxOk { cx with intr := i }) (la : List AFn) (lp : List PFn) : CxOk (Go.Ev.withFns cx la lp) where
 info := (hc (tabI (la.map AFn.pfn ++ lp))).info
 body := (hc (tabI (la.map AFn.pfn ++ lp))).body
 mixed := (hc (tabI (la.map AFn.pfn ++ lp))).mixed
 name := (hc (tabI (la.map AFn.pfn ++ lp))).name
 zero := (hc (tabI (la.map AFn.pfn ++ lp))).zero
 wp := (hc (tabI (la.map AFn.pfn ++ lp))).wp
theorem psound_of_evW {la : List AFn} {lp : List PFn} (hc : ∀ i : Intr, CxOk { cx with intr := i }) (ha : ∀ e ∈ la, PSound cx e.pfn) (hp : ∀ e ∈ lp, PSound cx e) {e : PFn}
  (hg : ∀ args v, e.p args = some v → ∀ H nx, ∃ n k, evFunc (withFns cx la lp) n e.f args H nx = some (v, H, k)) : PSound cx e := by
 intro i f' args H nx v H' nx' h B E w args' hW hr hf hgl har
 by_cases ef : f' = e.f
 ·subst ef
  simp only [if_true] at h
  obtain ⟨h1, h2, rfl, rfl⟩ := pureI_some h
  obtain ⟨n, k, h3⟩ := hg args v h1 H' nx'
  refine (ev_sound (CxOk.withFns hc la lp) (withFns_intr ha hp) n e.f args H' nx' v H' k h3 B E w args' hW hr ⟨hf.env, hf.heap, hf.lo⟩ hgl har).mono ?_
  rintro ev w' ⟨v', E', rfl, D⟩
  have hv := D.val.shut_eq 60 (by simpa [shut] using h2)
  subst hv
  exact ⟨v', E, rfl, ⟨VR.of_shut E h2, Env.le_refl _, fun _ _ => rfl, HR.back D.le hr D.hr, D.below, hf, Nat.le_refl _⟩⟩
 ·simp only [ef, if_false] at h; cases h
end Go.Ev
