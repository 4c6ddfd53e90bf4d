import Derived.Test.YthopphfehgdocaaGreatDoorGen7
namespace Go.Ev
open Go.RowKit
set_option linter.unusedSimpArgs false
set_option linter.unusedVariables false
variable {cx : Cx}

/-! ### The evaluator over values that are not known: its road is told ahead; what must be so for it to take that road is put down -/
inductive RecO where
  | b (x : Bool)
  | eq (v w : Value)
def RecO.holds : RecO → Prop
  | .b x => x = true
  | .eq v w => v = w
def bools : List RecO → Bool
  | [] => true
  | .b x :: r => x && bools r
  | .eq _ _ :: r => bools r
def lefts : List RecO → List Value
  | [] => []
  | .b _ :: r => lefts r
  | .eq v _ :: r => v :: lefts r
def rights : List RecO → List Value
  | [] => []
  | .b _ :: r => rights r
  | .eq _ w :: r => w :: rights r
/-- what is equal to itself by valEq -/
def eqable : Nat → Value → Bool
  | 0, _ => false
  | d + 1, v => match v with
    | .bool _ | .int _ _ | .float _ _ | .string _ | .pointer _ | .slice _ _ _ | .map _ | .nilFunc | .nilIface => true
    | .iface _ v => eqable d v
    | .func _ a b => a.toList.all (eqable d) && b.toList.all (eqable d)
    | .agg a => a.toList.all (eqable d)
    | .tuple a => a.toList.all (eqable d)
    | _ => false
theorem valEqL_refl {d : Nat} (ih : ∀ v, eqable d v = true → valEq d v v = true) : ∀ l : List Value, l.all (eqable d) = true → valEq.valEqL d l l = true
  | [], _ => by simp [valEq.valEqL]
  | v :: l, h => by
    simp only [List.all_cons, Bool.and_eq_true] at h
    simp only [valEq.valEqL, Bool.and_eq_true]
    exact ⟨ih v h.1, valEqL_refl ih l h.2⟩
theorem valEq_refl : ∀ (d : Nat) (v : Value), eqable d v = true → valEq d v v = true
  | 0, v, h => by simp [eqable] at h
  | d + 1, v, h => by
    have ih := valEq_refl d
    cases v with
    | pointer a => cases a <;> simp [valEq]
    | slice a l c => cases a <;> simp [valEq]
    | map a => cases a <;> simp [valEq]
    | iface t v => simp only [eqable] at h; simp [valEq, ih v h]
    | func f a b => simp only [eqable, Bool.and_eq_true] at h; simp [valEq, valEqL_refl ih _ h.1, valEqL_refl ih _ h.2]
    | agg a => simp only [eqable] at h; simp [valEq, valEqL_refl ih _ h]
    | tuple a => simp only [eqable] at h; simp [valEq, valEqL_refl ih _ h]
    | bool b => simp [valEq]
    | int k n => simp [valEq]
    | float k n => simp [valEq]
    | string b => simp [valEq]
    | nilFunc => simp [valEq]
    | nilIface => simp [valEq]
    | _ => simp [eqable] at h
/-- the same load, elsewhere: it must answer the same -/
def loadRec (cx : Cx) (o : Oper) (tm : T Value) (id : Nat) (H : Hp) (v : Value) : List RecO :=
  match evOp cx (St.eval tm) o id H with
  | some (.val v', _) => [.eq v v', .b (eqable 60 v)]
  | _ => [.b false]
abbrev CallerO := FuncId → Array Value → Hp → Nat → List Bool → Option (Value × Hp × Nat × List Bool × List RecO)

/-- what an operation answers, if something is so -/
abbrev Hook := Oper → (Operand → Value) → Option (Value × Bool)
def HookOk (cx : Cx) (hk : Hook) : Prop := ∀ o ρ v, hk o ρ = some (v, true) → ∀ id H, evOp cx ρ o id H = some (.val v, H)

def evOpO (cx : Cx) (hk : Hook) (ρ : Operand → Value) (o : Oper) (id : Nat) (H : Hp) (p : List Bool) : Option (ANext × Hp × List Bool × List RecO) :=
  match o.op with
  | .pick c a b => match ρ c, p with
    | .bool t, q :: p' => some (.val (bif q then ρ a else ρ b), H, p', [.b (t == q)])
    | _, _ => none
  | _ => match hk o ρ with
    | some (v, b) => some (.val v, H, p, [.b b])
    | none => match evOp cx ρ o id H with
      | none => none
      | some (r, H') => some (r, H', p, [])

def evFullO (cx : Cx) (hk : Hook) (K : CallerO) (ρ : Operand → Value) (o : Oper) (H : Hp) (nx : Nat) (p : List Bool) : Option (Value × Hp × Nat × List Bool × List RecO) :=
  match evOpO cx hk ρ o nx H p with
  | none => none
  | some (.val v, H', p', r) => some (v, H', Nat.add nx 1, p', r)
  | some (.skip, H', p', r) => some (undef, H', Nat.add nx 1, p', r)
  | some (.enter f args, H', p', r) => match K f args H' (Nat.add nx 1) p' with
    | none => none
    | some (v, H2, n2, p2, r2) => some (v, H2, n2, p2, r ++ r2)

/-- whether an operation is wanted; the road; what must be so -/
def wantedO (o : Oper) (ops : Array Oper) (tm : T Value) (p : List Bool) : Option (Bool × List Bool × List RecO) :=
  match o.guard with
  | none => some (true, p, [])
  | some (j, want) => match yieldedT ops tm j with
    | none => some (false, p, [])
    | some b => match p with
      | q :: p' => some (q == want, p', [.b (b == q)])
      | [] => none

def evOpsO (cx : Cx) (hk : Hook) (K : CallerO) (ops : Array Oper) (nt : Nat) : List Oper → St → List Bool → Option (St × List Bool × List RecO)
  | [], s, p => some (s, p, [])
  | o :: rest, s, p => match wantedO o ops s.tm p with
    | none => none
    | some (false, p, r) => match putT s.tm nt o.dst undef with
      | none => none
      | some tm => match evOpsO cx hk K ops nt rest { s with tm } p with
        | none => none
        | some (s', p', r') => some (s', p', r ++ r')
    | some (true, p, r) => match constsOk cx o with
      | false => none
      | true => match evFullO cx hk K (St.eval s.tm) o s.H s.nx p with
        | none => none
        | some (v, H, nx, p, r1) => match putT s.tm nt o.dst v with
          | none => none
          | some tm => match evOpsO cx hk K ops nt rest { tm, H, nx } p with
            | none => none
            | some (s', p', r') => some (s', p', r ++ (r1 ++ r'))

def drStepO (cx : Cx) (hk : Hook) (K : CallerO) (ops : Array Oper) (nt : Nat) (preds : Array Nat) (base : Nat) (j : Nat) (o : Oper) (s : Dr) (p : List Bool) : Option (Dr × List Bool × List RecO) :=
  let m := preds.getD j 0
  let ρ := St.eval s.tm
  let fin (v : Value) (s : Dr) (p : List Bool) (r : List RecO) : Option (Dr × List Bool × List RecO) := match putT s.tm nt o.dst v with
    | none => none
    | some tm => some ({ s with tm }, p, r)
  match wantedO o ops s.tm p with
  | none => none
  | some (false, p, r) => fin undef s p r
  | some (true, p, r) => match constsOk cx o with
    | false => none
    | true => match cat o.op with
      | .pure => match evOpO cx hk ρ o (base + j) .nil p with
        | some (.val v, _, p, r1) => fin v s p (r ++ r1)
        | _ => none
      | .alloc => match evOp cx ρ o (base + j) .nil with
        | some (.val v, H1) => match H1.get (base + j) with
          | some ob => fin v { s with all := (j, base + j, ob) :: s.all } p r
          | none => none
        | _ => none
      | .load => match evOpO cx hk ρ o (base + j) (minHeap s.G s.all m) p with
        | some (.val v, _, p, r1) => fin v { s with loads := (j, o, s.tm, v) :: s.loads } p (r ++ (r1 ++ s.stages.flatMap (fun st => bif m.testBit st.1 then [] else loadRec cx o s.tm (base + j) (minHeap st.2 s.all m) v)))
        | _ => none
      | .effect =>
        match lastIn m s.stages with
        | false => none
        | true => match evFullO cx hk K ρ o (minHeap s.G s.all m) s.nx p with
          | none => none
          | some (v, H', nx', p, r1) =>
            fin v { s with G := H', nx := nx', stages := (j, s.G) :: s.stages } p (r ++ (r1 ++ s.loads.flatMap (fun l => bif m.testBit l.1 then [] else loadRec cx l.2.1 l.2.2.1 (base + l.1) (minHeap H' s.all (preds.getD l.1 0)) l.2.2.2)))

def drOpsO (cx : Cx) (hk : Hook) (K : CallerO) (ops : Array Oper) (nt : Nat) (preds : Array Nat) (base : Nat) : List (Oper × Nat) → Dr → List Bool → Option (Dr × List Bool × List RecO)
  | [], s, p => some (s, p, [])
  | (o, j) :: rest, s, p => match drStepO cx hk K ops nt preds base j o s p with
    | none => none
    | some (s', p, r) => match drOpsO cx hk K ops nt preds base rest s' p with
      | none => none
      | some (s2, p2, r2) => some (s2, p2, r ++ r2)

def evDrawO (cx : Cx) (hk : Hook) (K : CallerO) (ops : Array Oper) (nt : Nat) (s : St) (p : List Bool) : Option (St × List Bool × List RecO) :=
  let preds := predsGo ops.toList #[]
  match drOk ops preds with
  | false => none
  | true => match drOpsO cx hk K ops nt preds s.nx ops.toList.zipIdx { tm := s.tm, G := s.H, nx := Nat.add s.nx ops.size, all := [], stages := [], loads := [] } p with
    | none => none
    | some (d, p, r) => some ({ tm := d.tm, H := minHeap d.G d.all (2 ^ ops.size - 1), nx := d.nx }, p, r)

def evCodeO (cx : Cx) (hk : Hook) (K : CallerO) (nt : Nat) : Nat → Code → St → List Bool → Option (AExit × St × List Bool × List RecO)
  | 0, _, _, _ => none
  | n + 1, c, s, p => match c with
    | .skip => some (.normal, s, p, [])
    | .label _ => some (.normal, s, p, [])
    | .region _ ops false => match evOpsO cx hk K ops nt ops.toList s p with
      | none => none
      | some (s', p', r) => some (.normal, s', p', r)
    | .region _ ops true => match evDrawO cx hk K ops nt s p with
      | none => none
      | some (s', p', r) => some (.normal, s', p', r)
    | .seq a b => match evCodeO cx hk K nt n a s p with
      | none => none
      | some (.normal, s', p', r) => match evCodeO cx hk K nt n b s' p' with
        | none => none
        | some (e, s2, p2, r2) => some (e, s2, p2, r ++ r2)
      | some (e, s', p', r) => some (e, s', p', r)
    | .cond x a b => match operandOk cx x with
      | false => none
      | true => match St.eval s.tm x, p with
        | .bool t, q :: p => match evCodeO cx hk K nt n (bif q then a else b) s p with
          | none => none
          | some (e, s2, p2, r2) => some (e, s2, p2, .b (t == q) :: r2)
        | _, _ => none
    | .block id b => match evCodeO cx hk K nt n b s p with
      | none => none
      | some (.exit k, s', p', r) => if k = id then some (.normal, s', p', r) else some (.exit k, s', p', r)
      | some (e, s', p', r) => some (e, s', p', r)
    | .loop b => match evCodeO cx hk K nt n b s p with
      | none => none
      | some (.normal, s', p', r) => match evCodeO cx hk K nt n (.loop b) s' p' with
        | none => none
        | some (e, s2, p2, r2) => some (e, s2, p2, r ++ r2)
      | some (e, s', p', r) => some (e, s', p', r)
    | .exit id => some (.exit id, s, p, [])
    | .ret => some (.ret, s, p, [])
    | _ => none

def evFuncO (cx : Cx) (hk : Hook) : Nat → CallerO
  | 0, _, _, _, _, _ => none
  | n + 1, f, args, H, nx, p =>
    match cx.intr f with
    | some g => match g args H nx with
      | none => none
      | some (v, H', nx') => some (v, H', nx', p, [])
    | none => match cx.body f with
      | none => none
      | some fn => match fn.body with
        | none => none
        | some c => match evCodeO cx hk (evFuncO cx hk n) (max args.size fn.ntmps) n c { tm := T.setList .nil 0 args.toList, H, nx } p with
          | some (.exit _, _, _, _) => none
          | none => none
          | some (_, s, p', r) => match evResults cx s.tm s.H fn.results.toList with
            | none => none
            | some l => some (oneOf l, s.H, s.nx, p', r)

/-! ### It says what the evaluator says -/
def So (r : List RecO) : Prop := ∀ x ∈ r, x.holds
theorem So.left {r r' : List RecO} (h : So (r ++ r')) : So r := fun b hb => h b (List.mem_append_left _ hb)
theorem So.right {r r' : List RecO} (h : So (r ++ r')) : So r' := fun b hb => h b (List.mem_append_right _ hb)
theorem So.head {b : Bool} {r : List RecO} (h : So (.b b :: r)) : b = true := h (.b b) List.mem_cons_self
theorem So.tail {b : RecO} {r : List RecO} (h : So (b :: r)) : So r := fun c hc => h c (List.mem_cons_of_mem _ hc)
theorem so_of : ∀ {r : List RecO}, bools r = true → lefts r = rights r → So r
  | [], _, _ => fun x hx => by cases hx
  | .b x :: r, h, k => by
    simp only [bools, Bool.and_eq_true] at h
    intro y hy
    rcases List.mem_cons.1 hy with rfl | hy
    · exact h.1
    · exact so_of h.2 (by simpa [lefts, rights] using k) y hy
  | .eq v w :: r, h, k => by
    simp only [lefts, rights, List.cons.injEq] at k
    intro y hy
    rcases List.mem_cons.1 hy with rfl | hy
    · exact k.1
    · exact so_of (by simpa [bools] using h) k.2 y hy
theorem loadRec_ok {o : Oper} {tm : T Value} {id : Nat} {H : Hp} {v : Value} (h : So (loadRec cx o tm id H v)) : sameLoad cx o tm id H v = true := by
  unfold loadRec at h
  unfold sameLoad
  split at h
  · rename_i v' H1 he
    rw [he]
    have h1 : v = v' := h (.eq v v') List.mem_cons_self
    have h2 : eqable 60 v = true := h.tail.head
    subst h1
    exact valEq_refl _ _ h2
  · exact absurd h.head (by simp)
theorem loads_ok {α : Type} (l : List α) (t : α → Bool) (f : α → List RecO) (g : α → Bool) (hfg : ∀ a, So (f a) → g a = true) (h : So (l.flatMap fun a => bif t a then [] else f a)) : l.all (fun a => t a || g a) = true := by
  rw [List.all_eq_true]
  intro a ha
  cases ht : t a with
  | true => rfl
  | false =>
    rw [Bool.false_or]
    refine hfg a (fun x hx => h x ?_)
    rw [List.mem_flatMap]
    exact ⟨a, ha, by rw [ht]; exact hx⟩

variable {hk : Hook}
def OkO (KO : CallerO) (K : Caller) : Prop := ∀ f args H nx p v H' nx' p' r, KO f args H nx p = some (v, H', nx', p', r) → So r → K f args H nx = some (v, H', nx')

theorem evOpO_ok (hh : HookOk cx hk) {ρ : Operand → Value} {o : Oper} {id : Nat} {H : Hp} {p : List Bool} {a : ANext} {H' : Hp} {p' : List Bool} {r : List RecO} (h : evOpO cx hk ρ o id H p = some (a, H', p', r)) (hs : So r) : evOp cx ρ o id H = some (a, H') := by
  unfold evOpO at h
  split at h
  · rename_i c x y ho
    split at h
    · rename_i t q p1 hc
      cases h
      have ht : t = q := by have := hs.head; simpa using this
      subst ht
      unfold evOp
      rw [ho]
      simp only [hc, rval]
      cases t <;> rfl
    · cases h
  · split at h
    · rename_i v b hb
      cases h
      have hb1 : b = true := hs.head
      subst hb1
      exact hh _ _ _ hb _ _
    · split at h
      · cases h
      · rename_i a' H1 he
        cases h
        exact he

theorem evFullO_ok (hh : HookOk cx hk) {KO : CallerO} {K : Caller} (hK : OkO KO K) {ρ : Operand → Value} {o : Oper} {H : Hp} {nx : Nat} {p : List Bool} {v : Value} {H' : Hp} {nx' : Nat} {p' : List Bool} {r : List RecO}
    (h : evFullO cx hk KO ρ o H nx p = some (v, H', nx', p', r)) (hs : So r) : evFull cx K ρ o H nx = some (v, H', nx') := by
  unfold evFullO at h
  unfold evFull
  split at h
  · cases h
  · rename_i he; cases h; rw [evOpO_ok hh he hs]
  · rename_i he; cases h; rw [evOpO_ok hh he hs]
  · rename_i f args H1 p1 r1 he
    split at h
    · cases h
    · rename_i v2 H2 n2 p2 r2 hk
      cases h
      rw [evOpO_ok hh he hs.left]
      exact hK _ _ _ _ _ _ _ _ _ _ hk hs.right

theorem wantedO_ok {o : Oper} {ops : Array Oper} {tm : T Value} {p p' : List Bool} {r : List RecO} {b : Bool} (h : wantedO o ops tm p = some (b, p', r)) (hs : So r) : wantedT o ops tm = b := by
  unfold wantedO at h
  unfold wantedT
  split at h
  · rename_i hg; cases h; rw [hg]
  · rename_i j want hg
    rw [hg]
    simp only
    split at h
    · rename_i hy; cases h; rw [hy]
    · rename_i c hy
      split at h
      · rename_i q p1
        cases h
        have : c = q := by have := hs.head; simpa using this
        subst this
        rw [hy]
      · cases h

theorem evOpsO_ok (hh : HookOk cx hk) {KO : CallerO} {K : Caller} (hK : OkO KO K) (ops : Array Oper) (nt : Nat) : ∀ (l : List Oper) (s : St) (p : List Bool) (s' : St) (p' : List Bool) (r : List RecO), evOpsO cx hk KO ops nt l s p = some (s', p', r) → So r → evOps cx K ops nt l s = some s'
  | [], s, p, s', p', r, h, hs => by simp only [evOpsO] at h; cases h; rfl
  | o :: rest, s, p, s', p', r, h, hs => by
    simp only [evOpsO] at h
    simp only [evOps]
    split at h
    · cases h
    · rename_i p1 r1 hw
      split at h
      · cases h
      · rename_i tm hp
        split at h
        · cases h
        · rename_i s2 p2 r2 hr
          cases h
          rw [wantedO_ok hw hs.left]
          simp only [hp]
          exact evOpsO_ok hh hK ops nt rest _ _ _ _ _ hr hs.right
    · rename_i p1 r1 hw
      split at h
      · cases h
      · rename_i hc
        split at h
        · cases h
        · rename_i v H nx p2 r2 hf
          split at h
          · cases h
          · rename_i tm hp
            split at h
            · cases h
            · rename_i s2 p3 r3 hr
              cases h
              rw [wantedO_ok hw hs.left]
              simp only [hc, evFullO_ok hh hK hf hs.right.left, hp]
              exact evOpsO_ok hh hK ops nt rest _ _ _ _ _ hr hs.right.right

theorem drStepO_ok (hh : HookOk cx hk) {KO : CallerO} {K : Caller} (hK : OkO KO K) {ops : Array Oper} {nt : Nat} {preds : Array Nat} {base j : Nat} {o : Oper} {s s' : Dr} {p p' : List Bool} {r : List RecO}
    (h : drStepO cx hk KO ops nt preds base j o s p = some (s', p', r)) (hs : So r) : drStep cx K ops nt preds base j o s = some s' := by
  unfold drStepO at h
  unfold drStep
  simp only at h ⊢
  have fin : ∀ (v : Value) (F : T Value → Dr) (p1 : List Bool) (r1 : List RecO), (match putT s.tm nt o.dst v with | none => none | some tm => some (F tm, p1, r1)) = some (s', p', r) →
      r1 = r ∧ (match putT s.tm nt o.dst v with | none => none | some tm => some (F tm)) = some s' := by
    intro v F p1 r1 q
    split at q
    · cases q
    · rename_i tm ht; cases q; exact ⟨rfl, rfl⟩
  split at h
  · cases h
  · rename_i p1 r1 hw
    obtain ⟨rfl, e⟩ := fin _ (fun tm => { s with tm }) _ _ h
    rw [wantedO_ok hw hs]
    exact e
  · rename_i p1 r1 hw
    split at h
    · cases h
    · rename_i hc
      split at h
      · rename_i hcat
        split at h
        · rename_i v H1 p2 r2 he
          obtain ⟨rfl, e⟩ := fin _ (fun tm => { s with tm }) _ _ h
          rw [wantedO_ok hw hs.left]
          simp only [hc, hcat, evOpO_ok hh he hs.right]
          exact e
        · cases h
      · rename_i hcat
        split at h
        · rename_i v H1 he
          split at h
          · rename_i ob hob
            obtain ⟨rfl, e⟩ := fin v (fun tm => { s with tm, all := (j, base + j, ob) :: s.all }) _ _ h
            rw [wantedO_ok hw hs]
            simp only [hc, hcat, he, hob]
            exact e
          · cases h
        · cases h
      · rename_i hcat
        split at h
        · rename_i v H1 p2 r2 he
          obtain ⟨rfl, e⟩ := fin v (fun tm => { s with tm, loads := (j, o, s.tm, v) :: s.loads }) _ _ h
          rw [wantedO_ok hw hs.left]
          simp only [hc, hcat, evOpO_ok hh he hs.right.left, loads_ok _ _ _ _ (fun a ha => loadRec_ok ha) hs.right.right]
          exact e
        · cases h
      · rename_i hcat
        split at h
        · cases h
        · rename_i hl
          split at h
          · cases h
          · rename_i v H1 nx1 p2 r2 he
            obtain ⟨rfl, e⟩ := fin v (fun tm => { s with tm, G := H1, nx := nx1, stages := (j, s.G) :: s.stages }) _ _ h
            rw [wantedO_ok hw hs.left]
            simp only [hc, hcat, hl, evFullO_ok hh hK he hs.right.left, loads_ok _ _ _ _ (fun a ha => loadRec_ok ha) hs.right.right]
            exact e

theorem drOpsO_ok (hh : HookOk cx hk) {KO : CallerO} {K : Caller} (hK : OkO KO K) {ops : Array Oper} {nt : Nat} {preds : Array Nat} {base : Nat} : ∀ (l : List (Oper × Nat)) (s : Dr) (p : List Bool) (s' : Dr) (p' : List Bool) (r : List RecO),
    drOpsO cx hk KO ops nt preds base l s p = some (s', p', r) → So r → drOps cx K ops nt preds base l s = some s'
  | [], s, p, s', p', r, h, hs => by simp only [drOpsO] at h; cases h; rfl
  | (o, j) :: rest, s, p, s', p', r, h, hs => by
    simp only [drOpsO] at h
    simp only [drOps]
    split at h
    · cases h
    · rename_i s1 p1 r1 h1
      split at h
      · cases h
      · rename_i s2 p2 r2 h2
        cases h
        rw [drStepO_ok hh hK h1 hs.left]
        exact drOpsO_ok hh hK rest _ _ _ _ _ h2 hs.right

theorem evDrawO_ok (hh : HookOk cx hk) {KO : CallerO} {K : Caller} (hK : OkO KO K) {ops : Array Oper} {nt : Nat} {s s' : St} {p p' : List Bool} {r : List RecO} (h : evDrawO cx hk KO ops nt s p = some (s', p', r)) (hs : So r) : evDraw cx K ops nt s = some s' := by
  unfold evDrawO at h
  unfold evDraw
  simp only at h ⊢
  split at h
  · cases h
  · rename_i hd
    split at h
    · cases h
    · rename_i d p1 r1 h1
      cases h
      rw [hd]
      simp only [drOpsO_ok hh hK _ _ _ _ _ _ h1 hs]

theorem evCodeO_ok (hh : HookOk cx hk) {KO : CallerO} {K : Caller} (hK : OkO KO K) (nt : Nat) : ∀ (n : Nat) (c : Code) (s : St) (p : List Bool) (e : AExit) (s' : St) (p' : List Bool) (r : List RecO), evCodeO cx hk KO nt n c s p = some (e, s', p', r) → So r → evCode cx K nt n c s = some (e, s')
  | 0, c, s, p, e, s', p', r, h, hs => by simp only [evCodeO] at h; cases h
  | n + 1, c, s, p, e, s', p', r, h, hs => by
    have ih := evCodeO_ok hh hK nt n
    simp only [evCodeO] at h
    simp only [evCode]
    split at h
    · cases h; rfl
    · cases h; rfl
    · split at h
      · cases h
      · rename_i s1 p1 r1 h1
        cases h
        simp only [evOpsO_ok hh hK _ _ _ _ _ _ _ _ h1 hs]
    · split at h
      · cases h
      · rename_i s1 p1 r1 h1
        cases h
        simp only [evDrawO_ok hh hK h1 hs]
    · rename_i a b
      split at h
      · cases h
      · rename_i s1 p1 r1 h1
        split at h
        · cases h
        · rename_i e2 s2 p2 r2 h2
          cases h
          simp only [ih _ _ _ _ _ _ _ h1 hs.left]
          exact ih _ _ _ _ _ _ _ h2 hs.right
      · rename_i e1 s1 p1 r1 hne h1
        cases h
        simp only [ih _ _ _ _ _ _ _ h1 hs]
        cases e <;> first | rfl | exact (hne rfl).elim | exact (hne _ rfl).elim
    · rename_i x a b
      split at h
      · cases h
      · rename_i ho
        split at h
        · rename_i t q p1 he
          split at h
          · cases h
          · rename_i e2 s2 p2 r2 h2
            cases h
            have : t = q := by have := hs.head; simpa using this
            subst this
            simp only [ho, he]
            have := ih _ _ _ _ _ _ _ h2 hs.tail
            cases t <;> exact this
        · cases h
    · rename_i id b
      split at h
      · cases h
      · rename_i k s1 p1 r1 h1
        split at h
        · rename_i hk
          cases h
          simp only [ih _ _ _ _ _ _ _ h1 hs, hk, if_true]
        · rename_i hk
          cases h
          simp only [ih _ _ _ _ _ _ _ h1 hs, hk, if_false]
      · rename_i e1 s1 p1 r1 hne h1
        cases h
        simp only [ih _ _ _ _ _ _ _ h1 hs]
        cases e <;> first | rfl | exact (hne rfl).elim | exact (hne _ rfl).elim
    · rename_i b
      split at h
      · cases h
      · rename_i s1 p1 r1 h1
        split at h
        · cases h
        · rename_i e2 s2 p2 r2 h2
          cases h
          simp only [ih _ _ _ _ _ _ _ h1 hs.left]
          exact ih _ _ _ _ _ _ _ h2 hs.right
      · rename_i e1 s1 p1 r1 hne h1
        cases h
        simp only [ih _ _ _ _ _ _ _ h1 hs]
        cases e <;> first | rfl | exact (hne rfl).elim | exact (hne _ rfl).elim
    · cases h; rfl
    · cases h; rfl
    · cases h

theorem evFuncO_ok (hh : HookOk cx hk) : ∀ n, OkO (evFuncO cx hk n) (evFunc cx n)
  | 0 => fun f args H nx p v H' nx' p' r h => by simp only [evFuncO] at h; cases h
  | n + 1 => fun f args H nx p v H' nx' p' r h hs => by
    have ih := evFuncO_ok hh n
    simp only [evFuncO] at h
    simp only [evFunc]
    split at h
    · rename_i g hg
      split at h
      · cases h
      · rename_i hv
        cases h
        rw [hg]
        exact hv
    · rename_i hg
      rw [hg]
      simp only
      split at h
      · cases h
      · rename_i fn hfn
        rw [hfn]
        simp only
        split at h
        · cases h
        · rename_i c hc
          rw [hc]
          simp only
          split at h
          · cases h
          · cases h
          · rename_i e s p1 r1 hne he
            split at h
            · cases h
            · rename_i l hl
              cases h
              rw [evCodeO_ok hh ih _ _ _ _ _ _ _ _ _ he hs]
              cases e with
              | exit k => exact (hne _ rfl).elim
              | normal => simp only [hl]
              | ret => simp only [hl]
end Go.Ev
namespace Go.Ev
open Go.RowKit
set_option linter.unusedSimpArgs false
set_option linter.unusedVariables false
variable {cx : Cx}

/-! ### Operations over values that are not known: what they answer, and what must be so -/
def fop (k : FloatKind) : BinOp → Option (Nat → Nat → Option Nat)
  | .add => some k.format.add
  | .sub => some k.format.sub
  | .mul => some k.format.mul
  | .quo => some k.format.div
  | _ => none
def fval (r : Option Nat) : Nat := r.getD 0
def f2i (s : FloatKind) (b : Nat) : Int := ((s.decode b).toInt .zero).getD 0
def f2iOk (s : FloatKind) (b : Nat) (k : IntKind) : Bool := ((s.decode b).toInt .zero).isSome && decide (k.min ≤ f2i s b ∧ f2i s b ≤ k.max)
/-- what math's functions in machine code make of a float -/
def fround (way : Ieee.Toward) (x : Nat) : Nat := FloatKind.f64.encode ((FloatKind.f64.decode x).integral way)
def froundOk (x : Nat) : Bool := match FloatKind.f64.decode x with
  | .nan _ _ => false
  | _ => true

/-- `ext`: functions without a Go body -/
def hook (cx : Cx) (ext : FuncId → Array Value → Option (Value × Bool)) : Hook := fun o ρ =>
  match o.op with
  | .binOp op _ x y _ => match ρ x, ρ y with
    | .float k a, .float k' b => match decide (k = k'), fop k op with
      | true, some g => some (.float k (fval (g a b)), (g a b).isSome)
      | _, _ => none
    | .int k a, .int k' b => match decide (k = k'), op with
      | true, .quo => some (.int k (k.wrap (a.tdiv b)), !(b == 0))
      | true, .rem => some (.int k (a.tmod b), !(b == 0))
      | _, _ => none
    | .string a, .string b => match op with
      | .add => some (.string (a ++ b), decide (((a.size + b.size : Nat) : Int) ≤ IntKind.i64.max))
      | _ => none
    | _, _ => none
  | .convert src dst x => match cx.und src, cx.und dst, ρ x with
    | some (.float _), some (.int k), .float s b => some (.int k (f2i s b), f2iOk s b k)
    | _, _, _ => none
  | .index t x i => match cx.und t, ρ x, ρ i with
    | some .string, .string s, .int k n => some (.int .u8 ((s[n.toNat]?).getD 0).toNat, decide (0 ≤ n) && (s[n.toNat]?).isSome)
    | _, _, _ => none
  | .call c => match c.callee with
    | .value f => match ρ f with
      | .func (.func k) first captured => match first.isEmpty && captured.isEmpty with
        | true => ext k (c.args.map ρ)
        | false => none
      | _ => none
    | _ => none
  | _ => none

theorem closedRun_val {ρ : Operand → Value} {o : Oper} {H : Hp} {v : Value} (h1 : o.op.operands.toList.all (fun x => shut (ρ x)) = true) (h2 : pureRun cx.P (execOp ρ o) = some (.value v)) (h3 : shut v = true) : closedRun cx ρ o H = some (.val v, H) := by
  unfold closedRun
  rw [h1, h2]
  simp only [h3, rval]

/-- functions without a Go body -/
def ExtOk (cx : Cx) (ext : FuncId → Array Value → Option (Value × Bool)) : Prop := ∀ k args v, ext k args = some (v, true) →
  args.toList.all shut = true ∧ shut v = true ∧ (∀ H, aCallFunc cx k args H = none) ∧ pureRun cx.P (callFunc k args) = some (.value v)
end Go.Ev
namespace Go.Ev
open Go.RowKit
set_option linter.unusedSimpArgs false
set_option linter.unusedVariables false
variable {cx : Cx}

theorem pureRun_bind {α β : Type} (P : Program) (s : Sem α) (k : α → Sem β) : pureRun P (s >>= k) = (pureRun P s).bind fun a => pureRun P (k a) := by
  induction s with
  | pure a => rfl
  | program f ih => exact ih P
  | mark m f ih => exact ih
  | choose q f ih =>
    show (if q.forced then pureRun P (f 0 >>= k) else none) = (if q.forced then pureRun P (f 0) else none).bind _
    split
    · exact ih 0
    · rfl
  | _ => rfl
theorem pureRun_pure {α : Type} (P : Program) (a : α) : pureRun P (pure a : Sem α) = some a := rfl
theorem pureRun_ite {α : Type} (P : Program) (c : Prop) [Decidable c] (s t : Sem α) : pureRun P (if c then s else t) = if c then pureRun P s else pureRun P t := by split <;> rfl
theorem pureRun_und (hc : CxOk cx) {t : TypeId} {d : TypeDesc} (e : cx.und t = some d) : pureRun cx.P (underlying t) = some d := by
  have : pureRun cx.P (underlying t) = (match cx.P.underlying t with | some d => some d | none => none) := by
    show pureRun cx.P (match cx.P.underlying t with | some d => pure d | none => stuck "no such type") = _
    cases cx.P.underlying t <;> rfl
  rw [this, hc.und e]
theorem isSome_fval {r : Option Nat} (h : r.isSome = true) : r = some (fval r) := by
  cases r with
  | none => cases h
  | some x => rfl

theorem hook_ok (hc : CxOk cx) {ext : FuncId → Array Value → Option (Value × Bool)} (he : ExtOk cx ext) : HookOk cx (hook cx ext) := by
  intro o ρ v h id H
  unfold hook at h
  split at h
  · rename_i op t x y b ho
    have hclosed : ∀ (r : Value), (shut (ρ x) = true) → (shut (ρ y) = true) → pureRun cx.P (execOp ρ o) = some (.value r) → shut r = true → evOp cx ρ o id H = some (.val r, H) := by
      intro r hx hy hp hr
      have h1 : o.op.operands.toList.all (fun x => shut (ρ x)) = true := by rw [ho]; simp [Op.operands, hx, hy]
      have := closedRun_val (H := H) h1 hp hr
      unfold evOp
      rw [ho]
      simp only
      rw [this]
      rfl
    split at h
    · rename_i k a k' b hx hy
      split at h
      · rename_i g hk hg
        have hk := of_decide_eq_true hk
        subst hk
        simp only [Option.some.injEq, Prod.mk.injEq] at h
        obtain ⟨rfl, hs⟩ := h
        refine hclosed _ (by rw [hx]; rfl) (by rw [hy]; rfl) ?_ rfl
        unfold execOp
        rw [ho]
        simp only [hx, hy]
        cases hr : g a b with
        | none => rw [hr] at hs; cases hs
        | some z =>
        cases op <;> simp only [fop, Option.some.injEq, reduceCtorEq] at hg <;> subst hg <;> simp only [eqGuard, binOp, Op.floatArith, pureRun_bind, pureRun_pure, pureRun_ite, Option.bind_some, ne_eq, not_true_eq_false, if_false, hr, Bool.not_false, if_true, fval, Option.getD_some]
      · cases h
    · rename_i k a k' b hx hy
      split at h
      · rename_i hk
        have hk := of_decide_eq_true hk
        subst hk
        simp only [Option.some.injEq, Prod.mk.injEq] at h
        obtain ⟨rfl, hs⟩ := h
        have hb : b ≠ 0 := by simpa using hs
        refine hclosed _ (by rw [hx]; rfl) (by rw [hy]; rfl) ?_ rfl
        unfold execOp
        rw [ho]
        simp only [hx, hy]
        simp only [eqGuard, binOp, Op.intDiv, pureRun_bind, pureRun_pure, pureRun_ite, Option.bind_some, ne_eq, not_true_eq_false, if_false, hb, Bool.not_false, if_true]
      · rename_i hk
        have hk := of_decide_eq_true hk
        subst hk
        simp only [Option.some.injEq, Prod.mk.injEq] at h
        obtain ⟨rfl, hs⟩ := h
        have hb : b ≠ 0 := by simpa using hs
        refine hclosed _ (by rw [hx]; rfl) (by rw [hy]; rfl) ?_ rfl
        unfold execOp
        rw [ho]
        simp only [hx, hy]
        simp only [eqGuard, binOp, Op.intDiv, pureRun_bind, pureRun_pure, pureRun_ite, Option.bind_some, ne_eq, not_true_eq_false, if_false, hb, Bool.not_false, if_true]
      · cases h
    · rename_i a b hx hy
      split at h
      · simp only [Option.some.injEq, Prod.mk.injEq, decide_eq_true_eq] at h
        obtain ⟨rfl, hs⟩ := h
        refine hclosed _ (by rw [hx]; rfl) (by rw [hy]; rfl) ?_ rfl
        unfold execOp
        rw [ho]
        simp only [hx, hy]
        have hn : ¬ ((a.size + b.size : Nat) : Int) > IntKind.i64.max := by omega
        simp only [eqGuard, binOp, Op.stringOp, pureRun_bind, pureRun_pure, pureRun_ite, Option.bind_some, hn, if_false, Bool.not_false, if_true]
      · cases h
    · cases h
  · rename_i src dst x ho
    split at h
    · rename_i fk k s b hu1 hu2 hx
      simp only [Option.some.injEq, Prod.mk.injEq] at h
      obtain ⟨rfl, hs⟩ := h
      unfold f2iOk at hs
      simp only [Bool.and_eq_true, decide_eq_true_eq] at hs
      obtain ⟨h1, h2⟩ := hs
      have hr : (s.decode b).toInt .zero = some (f2i s b) := by
        unfold f2i
        cases hq : (s.decode b).toInt .zero with
        | none => rw [hq] at h1; cases h1
        | some n => rfl
      have hcl := closedRun_val (cx := cx) (ρ := ρ) (o := o) (H := H) (v := .int k (f2i s b)) (by rw [ho]; simp [Op.operands, hx]; rfl) ?_ rfl
      · unfold evOp
        rw [ho]
        simp only [hx]
        exact hcl
      · unfold execOp
        rw [ho]
        simp only [hx]
        have e1 := pureRun_und hc hu1
        have e2 := pureRun_und hc hu2
        simp only [convert, pureRun_bind, e1, e2, Option.bind_some, Conv.floatToInt, hr, h2, pureRun_pure, and_self, if_true]
    · cases h
  · rename_i t x i ho
    split at h
    · rename_i s k n hu hx hi
      simp only [Option.some.injEq, Prod.mk.injEq, Bool.and_eq_true, decide_eq_true_eq] at h
      obtain ⟨rfl, h1, h2⟩ := h
      have hcl := closedRun_val (cx := cx) (ρ := ρ) (o := o) (H := H) (v := .int .u8 ((s[n.toNat]?).getD 0).toNat) (by rw [ho]; simp [Op.operands, hx, hi]; exact ⟨rfl, rfl⟩) ?_ rfl
      · unfold evOp
        rw [ho]
        simp only [hx]
        exact hcl
      · unfold execOp
        rw [ho]
        simp only [hx, hi]
        have e1 := pureRun_und hc hu
        cases hq : s[n.toNat]? with
        | none => rw [hq] at h2; cases h2
        | some z => simp only [Instr.index, asIntOf, pureRun_bind, pureRun_pure, e1, Option.bind_some, h1, if_true, hq, Option.getD_some]
    · cases h
  · rename_i c ho
    split at h
    · rename_i f hcal
      split at h
      · rename_i k first captured hf
        split at h
        · rename_i hemp
          simp only [Bool.and_eq_true, Array.isEmpty_iff] at hemp
          obtain ⟨rfl, rfl⟩ := hemp
          obtain ⟨q1, q2, q3, q4⟩ := he _ _ _ h
          have hops : o.op.operands.toList.all (fun x => shut (ρ x)) = true := by
            have hq : o.op.operands = c.operands := by rw [ho]; rfl
            rw [hq]
            unfold Call.operands
            rw [hcal]
            simp only [Array.toList_append, List.all_append, Bool.and_eq_true]
            refine ⟨by simp [hf]; rfl, ?_⟩
            rw [Array.toList_map, List.all_map] at q1
            exact q1
          have hcl := closedRun_val (cx := cx) (ρ := ρ) (o := o) (H := H) (v := v) hops ?_ q2
          · unfold evOp
            rw [ho]
            simp only [hcal, hf]
            have e : #[] ++ c.args.map ρ ++ #[] = c.args.map ρ := by simp
            rw [e, q3 H]
            exact hcl
          · unfold execOp
            rw [ho]
            simp only [resolve, hcal, hf]
            have e : #[] ++ c.args.map ρ ++ #[] = c.args.map ρ := by simp
            simp only [Deferred.ofValue, pureRun_bind, pureRun_pure, Option.bind_some, invoke, e]
            exact q4
        · cases h
      · cases h
    · cases h
  · cases h
end Go.Ev
namespace Go.Ev
open Go.RowKit
set_option linter.unusedSimpArgs false
set_option linter.unusedVariables false
variable {cx : Cx}

abbrev Intr := FuncId → Option (Array Value → Hp → Nat → Option (Value × Hp × Nat))

theorem Fresh.up {E : Env} {H : Hp} {nx nx' : Nat} (h : Fresh cx E H nx) (le : nx ≤ nx') : Fresh cx E H nx' :=
  ⟨fun i hi => h.env i (Nat.le_trans le hi), fun i hi => h.heap i (Nat.le_trans le hi), Nat.le_trans h.lo le⟩

/-- what the evaluator makes of a function may be taken as its contract -/
theorem sound_of_ev {i j : Intr} (hc : CxOk { cx with intr := j }) (hI : IntrOk { cx with intr := j }) {f : FuncId} {g : Array Value → Hp → Nat → Option (Value × Hp × Nat)}
    (hg : ∀ args H nx v H' nx', g args H nx = some (v, H', nx') → ∃ n k, evFunc { cx with intr := j } n f args H nx = some (v, H', k) ∧ k ≤ nx') :
    Sound { cx with intr := i } (fun f' args H nx => if f' = f then g args H nx else none) := by
  intro f' args H nx v H' nx' h B E w args' hW hr hf hgl har
  by_cases e : f' = f
  · subst e
    simp only [if_true] at h
    obtain ⟨n, k, h1, h2⟩ := hg _ _ _ _ _ _ h
    refine (ev_sound hc hI n f' args H nx v H' k h1 B E w args' hW hr ⟨hf.env, hf.heap, hf.lo⟩ hgl har).mono ?_
    rintro ev w' ⟨v', E', rfl, D⟩
    exact ⟨v', E', rfl, ⟨D.val, D.le, D.keep, D.hr, D.below, (Fresh.up (cx := { cx with intr := i }) ⟨D.fresh.env, D.fresh.heap, D.fresh.lo⟩ h2), Nat.le_trans D.up h2⟩⟩
  · simp only [e, if_false] at h; cases h

/-- an answer that neither reads nor writes memory -/
def pureI (p : Array Value → Option Value) (c : Nat) : Array Value → Hp → Nat → Option (Value × Hp × Nat) := fun args H nx => match p args with
  | none => none
  | some v => some (v, H, Nat.add nx c)
theorem pureI_mono (p : Array Value → Option Value) (c : Nat) (f : FuncId) : MonoC (fun f' args H nx => if f' = f then pureI p c args H nx else none) := by
  intro f' args H nx v H' nx' h G X ho hX
  by_cases e : f' = f
  · simp only [e, if_true] at h ⊢
    unfold pureI at h ⊢
    cases hp : p args with
    | none => rw [hp] at h; cases h
    | some u => rw [hp] at h; cases h; exact ⟨Nat.le_add_right _ _, Kept.refl _, G, rfl, ho⟩
  · simp only [e, if_false] at h; cases h
theorem pureI_sound_of_ev {i j : Intr} (hc : CxOk { cx with intr := j }) (hI : IntrOk { cx with intr := j }) {f : FuncId} {p : Array Value → Option Value} {c : Nat}
    (hg : ∀ args v, p args = some v → ∀ H nx, ∃ n k, evFunc { cx with intr := j } n f args H nx = some (v, H, nx + k) ∧ k ≤ c) :
    Sound { cx with intr := i } (fun f' args H nx => if f' = f then pureI p c args H nx else none) := by
  refine sound_of_ev hc hI fun args H nx v H' nx' h => ?_
  unfold pureI at h
  cases hp : p args with
  | none => rw [hp] at h; cases h
  | some u =>
    rw [hp] at h
    cases h
    obtain ⟨n, k, h1, h2⟩ := hg args _ hp H nx
    exact ⟨n, nx + k, h1, Nat.add_le_add_left h2 _⟩
/-- .. by a contract of its own -/
theorem pureI_sound {i : Intr} {f : FuncId} {p : Array Value → Option Value} {c : Nat}
    (hg : ∀ args args' v B w E, cx.Wp B w → B ≤ w.heap.size → AR E args args' → p args = some v → Calls cx.P f args' w fun e w' => e = .returned v ∧ shut v = true ∧ Below w.heap.size w w') :
    Sound { cx with intr := i } (fun f' args H nx => if f' = f then pureI p c args H nx else none) := by
  intro f' args H nx v H' nx' h B E w args' hW hr hf hgl har
  by_cases e : f' = f
  · subst e
    simp only [if_true] at h
    unfold pureI at h
    cases hp : p args with
    | none => rw [hp] at h; cases h
    | some u =>
      rw [hp] at h
      cases h
      refine (hg args args' v B w E hW hr.base har hp).mono ?_
      rintro ev w' ⟨rfl, hs, hb⟩
      exact ⟨v, E, rfl, ⟨VR.of_shut E hs, Env.le_refl _, fun _ _ => rfl, hr.below hb, hb.mono hr.base, hf.up (Nat.le_add_right _ _), Nat.le_add_right _ _⟩⟩
  · simp only [e, if_false] at h; cases h

/-- a road's end, read off -/
theorem orc_run {hk : Hook} (hh : HookOk cx hk) {n : Nat} {f : FuncId} {args : Array Value} {H : Hp} {nx : Nat} {p : List Bool} {v : Value} {H' : Hp} {nx' : Nat} {b : Bool}
    (h : (evFuncO cx hk n f args H nx p).map (fun r => (r.1, r.2.1, r.2.2.1, bools r.2.2.2.2)) = some (v, H', nx', b))
    (he : (evFuncO cx hk n f args H nx p).map (fun r => lefts r.2.2.2.2) = (evFuncO cx hk n f args H nx p).map (fun r => rights r.2.2.2.2)) (hb : b = true) : evFunc cx n f args H nx = some (v, H', nx') := by
  cases hq : evFuncO cx hk n f args H nx p with
  | none => rw [hq] at h; cases h
  | some r =>
    obtain ⟨v1, H1, n1, p1, rs⟩ := r
    rw [hq] at h he
    simp only [Option.map_some, Option.some.injEq, Prod.mk.injEq] at h he
    obtain ⟨rfl, rfl, rfl, h4⟩ := h
    exact evFuncO_ok hh n _ _ _ _ _ _ _ _ _ _ hq (so_of (h4.trans hb) he)
theorem orc_val {hk : Hook} (hh : HookOk cx hk) {n : Nat} {f : FuncId} {args : Array Value} {H : Hp} {nx : Nat} {p : List Bool} {v : Value} {b : Bool}
    (h : (evFuncO cx hk n f args H nx p).map (fun r => (r.1, bools r.2.2.2.2)) = some (v, b))
    (he : (evFuncO cx hk n f args H nx p).map (fun r => lefts r.2.2.2.2) = (evFuncO cx hk n f args H nx p).map (fun r => rights r.2.2.2.2)) (hb : b = true) : ∃ H' nx', evFunc cx n f args H nx = some (v, H', nx') := by
  cases hq : evFuncO cx hk n f args H nx p with
  | none => rw [hq] at h; cases h
  | some r =>
    obtain ⟨v1, H1, n1, p1, rs⟩ := r
    rw [hq] at h he
    simp only [Option.map_some, Option.some.injEq, Prod.mk.injEq] at h he
    obtain ⟨rfl, h4⟩ := h
    exact ⟨H1, n1, evFuncO_ok hh n _ _ _ _ _ _ _ _ _ _ hq (so_of (h4.trans hb) he)⟩

/-- the records that are marked, and whether the others hold -/
def sel : List Bool → List RecO → List Bool
  | _, [] => []
  | m, .eq _ _ :: r => sel m r
  | [], .b _ :: r => sel [] r
  | true :: m, .b x :: r => x :: sel m r
  | false :: m, .b _ :: r => sel m r
def rest : List Bool → List RecO → Bool
  | _, [] => true
  | m, .eq _ _ :: r => rest m r
  | [], .b x :: r => match x with
    | true => rest [] r
    | false => false
  | true :: m, .b _ :: r => rest m r
  | false :: m, .b x :: r => match x with
    | true => rest m r
    | false => false
theorem bools_of : ∀ (r : List RecO) (m : List Bool), (∀ b ∈ sel m r, b = true) → rest m r = true → bools r = true
  | [], m, _, _ => rfl
  | .eq _ _ :: r, m, h, k => by
    simp only [bools]
    refine bools_of r m (fun b hb => h b ?_) ?_
    · cases m with
      | nil => simpa [sel] using hb
      | cons c m => cases c <;> simpa [sel] using hb
    · cases m with
      | nil => simpa [rest] using k
      | cons c m => cases c <;> simpa [rest] using k
  | .b x :: r, m, h, k => by
    simp only [bools, Bool.and_eq_true]
    cases m with
    | nil =>
      simp only [rest] at k
      cases x with
      | false => cases k
      | true => exact ⟨rfl, bools_of r [] (fun b hb => h b (by simpa [sel] using hb)) k⟩
    | cons c m =>
      cases c with
      | true =>
        simp only [sel] at h
        simp only [rest] at k
        exact ⟨h x List.mem_cons_self, bools_of r m (fun b hb => h b (List.mem_cons_of_mem _ hb)) k⟩
      | false =>
        simp only [sel] at h
        simp only [rest] at k
        cases x with
        | false => cases k
        | true => exact ⟨rfl, bools_of r m h k⟩
/-- a road's end: the value; what is marked is told apart -/
theorem orc_sel {hk : Hook} (hh : HookOk cx hk) {n : Nat} {f : FuncId} {args : Array Value} {H : Hp} {nx : Nat} {p m l : List Bool} {v : Value}
    (h1 : (evFuncO cx hk n f args H nx p).map (fun r => sel m r.2.2.2.2) = some l)
    (h2 : (evFuncO cx hk n f args H nx p).map (fun r => (r.1, rest m r.2.2.2.2)) = some (v, true))
    (he : (evFuncO cx hk n f args H nx p).map (fun r => lefts r.2.2.2.2) = (evFuncO cx hk n f args H nx p).map (fun r => rights r.2.2.2.2)) (hl : ∀ b ∈ l, b = true) : ∃ H' nx', evFunc cx n f args H nx = some (v, H', nx') := by
  cases hq : evFuncO cx hk n f args H nx p with
  | none => rw [hq] at h1; cases h1
  | some r =>
    obtain ⟨v1, H1, n1, p1, rs⟩ := r
    rw [hq] at h1 h2 he
    simp only [Option.map_some, Option.some.injEq, Prod.mk.injEq] at h1 h2 he
    obtain ⟨rfl, h4⟩ := h2
    subst h1
    exact ⟨H1, n1, evFuncO_ok hh n _ _ _ _ _ _ _ _ _ _ hq (so_of (bools_of _ _ hl h4) he)⟩
/-- .. and all of it -/
theorem orc_sel_run {hk : Hook} (hh : HookOk cx hk) {n : Nat} {f : FuncId} {args : Array Value} {H H' : Hp} {nx nx' : Nat} {p m l : List Bool} {v : Value}
    (h1 : (evFuncO cx hk n f args H nx p).map (fun r => sel m r.2.2.2.2) = some l)
    (h2 : (evFuncO cx hk n f args H nx p).map (fun r => (r.1, r.2.1, r.2.2.1, rest m r.2.2.2.2)) = some (v, H', nx', true))
    (he : (evFuncO cx hk n f args H nx p).map (fun r => lefts r.2.2.2.2) = (evFuncO cx hk n f args H nx p).map (fun r => rights r.2.2.2.2)) (hl : ∀ b ∈ l, b = true) : evFunc cx n f args H nx = some (v, H', nx') := by
  cases hq : evFuncO cx hk n f args H nx p with
  | none => rw [hq] at h1; cases h1
  | some r =>
    obtain ⟨v1, H1, n1, p1, rs⟩ := r
    rw [hq] at h1 h2 he
    simp only [Option.map_some, Option.some.injEq, Prod.mk.injEq] at h1 h2 he
    obtain ⟨rfl, rfl, rfl, h4⟩ := h2
    subst h1
    exact evFuncO_ok hh n _ _ _ _ _ _ _ _ _ _ hq (so_of (bools_of _ _ hl h4) he)
end Go.Ev
