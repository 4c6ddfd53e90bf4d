import Derived.Test.YthopphfehgdocaaGreatDoorGen5
set_option linter.unusedSimpArgs false
set_option linter.unusedVariables false
namespace Go.Ev
open Go.RowKit
variable {cx : Cx}
theorem valEq_sound : ∀ (d : Nat), (∀ v w, valEq d v w = true → v = w) ∧ (∀ l m, valEq.valEqL d l m = true → l = m)
 | 0 => ⟨fun v w h => by simp [valEq] at h, fun l m h => by
   induction l generalizing m with
   | nil => cases m with
    | nil => rfl
    | cons a b => simp [valEq.valEqL] at h
   | cons a l ih => cases m with
    | nil => simp [valEq.valEqL] at h
    | cons b m => simp [valEq.valEqL, valEq] at h⟩
 | d + 1 => by
  obtain ⟨ihv, ihl⟩ := valEq_sound d
  have one : ∀ v w, valEq (d + 1) v w = true → v = w := by
   intro v w h
   have arr : ∀ a b : Array Value, valEq.valEqL d a.toList b.toList = true → a = b := fun a b k => Array.ext' (ihl _ _ k)
   cases v with
   | bool a => cases w <;> simp [valEq] at h ⊢ <;> exact h
   | int j a => cases w <;> simp [valEq] at h ⊢ <;> exact h
   | float j a => cases w <;> simp [valEq] at h ⊢ <;> exact h
   | complex j a b => cases w <;> simp [valEq] at h
   | string a => cases w with
    | string b =>
     simp only [valEq, decide_eq_true_eq] at h
     have : a.data = b.data := Array.ext' h
     cases a; cases b
     simp only at this
     rw [this]
    | _ => simp [valEq] at h
   | pointer a => cases w with
    | pointer b => cases a <;> cases b <;> simp [valEq] at h ⊢ <;> exact h
    | _ => cases a <;> simp [valEq] at h
   | slice a x y => cases w with
    | slice b z u => cases a <;> cases b <;> simp [valEq] at h ⊢ <;> simp_all
    | _ => cases a <;> simp [valEq] at h
   | map a => cases w with
    | map b => cases a <;> cases b <;> simp [valEq] at h ⊢ <;> exact h
    | _ => cases a <;> simp [valEq] at h
   | chan a => cases w <;> simp [valEq] at h
   | func f a b => cases w with
    | func g c e =>
     simp only [valEq, Bool.and_eq_true, decide_eq_true_eq] at h
     rw [h.1.1, arr a c h.1.2, arr b e h.2]
    | _ => simp [valEq] at h
   | nilFunc => cases w <;> simp [valEq] at h ⊢
   | nilIface => cases w <;> simp [valEq] at h ⊢
   | iface t a => cases w with
    | iface u b =>
     simp only [valEq, Bool.and_eq_true] at h
     rw [Nat.eq_of_beq_eq_true h.1, ihv a b h.2]
    | _ => simp [valEq] at h
   | agg a => cases w with
    | agg b => simp only [valEq] at h; rw [arr a b h]
    | _ => simp [valEq] at h
   | tuple a => cases w with
    | tuple b => simp only [valEq] at h; rw [arr a b h]
    | _ => simp [valEq] at h
  refine ⟨one, fun l => ?_⟩
  induction l with
  | nil => intro m h; cases m with
   | nil => rfl
   | cons a b => simp [valEq.valEqL] at h
  | cons a l ih => intro m h; cases m with
   | nil => simp [valEq.valEqL] at h
   | cons b m =>
    simp only [valEq.valEqL, Bool.and_eq_true] at h
    rw [one a b h.1, ih m h.2]
theorem sameLoad_spec {o : Oper} {tm : T Value} {id : Nat} {H : Hp} {v : Value} (h : sameLoad cx o tm id H v = true) : ∃ H1, evOp cx (St.eval tm) o id H = some (.val v, H1) := by
 unfold sameLoad at h
 cases he : evOp cx (St.eval tm) o id H with
 | none => rw [he] at h; cases h
 | some p =>
  obtain ⟨r, H1⟩ := p
  rw [he] at h
  cases r with
  | val u => rw [(valEq_sound 60).1 v u h]; exact ⟨H1, rfl⟩
  | _ => cases h
theorem maskOf_spec (acc : Array Nat) : ∀ (l : List Edge) (j : Nat), (maskOf acc l).testBit j = true → ∃ e ∈ l, Region.binds .any e = true ∧ (j = e.on ∨ (acc.getD e.on 0).testBit j = true)
 | [], j, h => by simp [maskOf] at h
 | e :: l, j, h => by
  simp only [maskOf] at h
  cases hb : Region.binds .any e with
  | false =>
   rw [hb] at h
   obtain ⟨e', q1, q2⟩ := maskOf_spec acc l j h
   exact ⟨e', List.mem_cons_of_mem _ q1, q2⟩
  | true =>
   rw [hb] at h
   simp only [Nat.testBit_or, Bool.or_eq_true] at h
   rcases h with (h | h) | h
   ·obtain ⟨e', q1, q2⟩ := maskOf_spec acc l j h
    exact ⟨e', List.mem_cons_of_mem _ q1, q2⟩
   ·rw [Nat.testBit_two_pow] at h
    exact ⟨e, List.mem_cons_self, hb, .inl (by simpa using (of_decide_eq_true h).symm)⟩
   ·exact ⟨e, List.mem_cons_self, hb, .inr h⟩
theorem predsGo_spec : ∀ (l : List Oper) (acc : Array Nat), (predsGo l acc).size = acc.size + l.length ∧ (∀ i, i < acc.size → (predsGo l acc).getD i 0 = acc.getD i 0) ∧
  (∀ k o, l[k]? = some o → ∀ j, ((predsGo l acc).getD (acc.size + k) 0).testBit j = true → ∃ e ∈ o.after.toList, Region.binds .any e = true ∧ (j = e.on ∨ ((predsGo l acc).getD e.on 0).testBit j = true))
 | [], acc => ⟨by simp [predsGo], fun i hi => rfl, fun k o h => by simp at h⟩
 | o :: l, acc => by
  obtain ⟨h1, h2, h3⟩ := predsGo_spec l (acc.push (maskOf acc o.after.toList))
  have old : ∀ i, i < acc.size → (predsGo l (acc.push (maskOf acc o.after.toList))).getD i 0 = acc.getD i 0 := by
   intro i hi
   rw [h2 i (by simp; omega), Array.getD_eq_getD_getElem?, Array.getD_eq_getD_getElem?, Array.getElem?_push, if_neg (by omega)]
  refine ⟨by simp only [predsGo]; rw [h1]; simp; omega, old, fun k p hk j hj => ?_⟩
  simp only [predsGo] at hj ⊢
  cases k with
  | zero =>
   simp at hk
   subst hk
   rw [Nat.add_zero, h2 acc.size (by simp), Array.getD_eq_getD_getElem?, Array.getElem?_push, if_pos rfl] at hj
   obtain ⟨e, q1, q2, q3⟩ := maskOf_spec acc _ j hj
   refine ⟨e, q1, q2, ?_⟩
   rcases q3 with q3 | q3
   ·exact .inl q3
   ·refine .inr ?_
    by_cases he : e.on < acc.size
    ·rw [old e.on he]; exact q3
    ·rw [Array.getD_eq_getD_getElem?, Array.getElem?_eq_none (by omega)] at q3
     simp at q3
  | succ k =>
   have := h3 k p (by simpa using hk) j (by rw [Array.size_push, Nat.add_assoc, Nat.add_comm 1 k]; exact hj)
   exact this
theorem preds_spec {ops : Array Oper} {i j : Nat} {o : Oper} (ho : ops[i]? = some o) (h : ((predsGo ops.toList #[]).getD i 0).testBit j = true) :
  ∃ e ∈ o.after.toList, Region.binds .any e = true ∧ (j = e.on ∨ ((predsGo ops.toList #[]).getD e.on 0).testBit j = true) := by
 have := (predsGo_spec ops.toList #[]).2.2 i o (by simpa using ho) j (by simpa using h)
 exact this
theorem preds_out {ops : Array Oper} {i : Nat} (h : ops.size ≤ i) : (predsGo ops.toList #[]).getD i 0 = 0 := by
 have hs := (predsGo_spec ops.toList #[]).1
 rw [Array.getD_eq_getD_getElem?, Array.getElem?_eq_none (by rw [hs]; simpa using h)]
 rfl
structure DrOk (ops : Array Oper) : Prop where
 back : ∀ (i : Nat) (o : Oper), ops[i]? = some o → ∀ e ∈ o.after.toList, Region.binds .any e = true → e.on < i
 one : ∀ (i k : Nat) (o p : Oper) (d : Tmp), ops[i]? = some o → ops[k]? = some p → o.dst = some d → p.dst = some d → i = k
 read : ∀ (i k : Nat) (o p : Oper) (d : Tmp), ops[i]? = some o → ops[k]? = some p → i ≠ k → o.dst = some d → d ∈ readsOf ops p → ((predsGo ops.toList #[]).getD k 0).testBit i = true ∨ ((predsGo ops.toList #[]).getD i 0).testBit k = true
theorem drOk_spec {ops : Array Oper} (h : drOk ops (predsGo ops.toList #[]) = true) : DrOk ops := by
 have mem : ∀ i o, ops[i]? = some o → (o, i) ∈ ops.toList.zipIdx := by
  intro i o q
  rw [List.mem_zipIdx_iff_getElem?]
  simpa using q
 unfold drOk at h
 simp only [List.all_eq_true] at h
 refine ⟨fun i o q e he hb => ?_, fun i k o p d q1 q2 d1 d2 => ?_, fun i k o p d q1 q2 hne d1 hr => ?_⟩
 ·have := h (o, i) (mem i o q)
  simp only [Bool.and_eq_true] at this
  have h1 := this.1
  rw [Array.all_eq_true'] at h1
  have := h1 e (Array.mem_toList_iff.1 he)
  rw [hb] at this
  simpa [Nat.blt_eq] using this
 ·have := h (o, i) (mem i o q1)
  simp only [Bool.and_eq_true, d1] at this
  have h2 := this.2
  rw [List.all_eq_true] at h2
  have := h2 (p, k) (mem k p q2)
  simp only [Bool.or_eq_true, Bool.and_eq_true] at this
  rcases this with q | ⟨q, _⟩
  ·exact Nat.eq_of_beq_eq_true q
  ·rw [d2] at q; simp at q
 ·have := h (o, i) (mem i o q1)
  simp only [Bool.and_eq_true, d1] at this
  have h2 := this.2
  rw [List.all_eq_true] at h2
  have := h2 (p, k) (mem k p q2)
  simp only [Bool.or_eq_true, Bool.and_eq_true] at this
  rcases this with q | ⟨_, q⟩
  ·exact absurd (Nat.eq_of_beq_eq_true q) hne
  ·rcases q with (q | q) | q
   ·have hc : (readsOf ops p).contains d = true := List.contains_iff_mem.2 hr
    rw [hc] at q; cases q
   ·exact .inl q
   ·exact .inr q
theorem preds_lt {ops : Array Oper} (hk : DrOk ops) : ∀ (i j : Nat), ((predsGo ops.toList #[]).getD i 0).testBit j = true → j < i := by
 intro i
 induction i using Nat.strongRecOn with
 | _ i ih =>
  intro j h
  cases ho : ops[i]? with
  | none =>
   rw [preds_out (by rw [Array.getElem?_eq_none_iff] at ho; exact ho)] at h
   simp at h
  | some o =>
   obtain ⟨e, q1, q2, q3⟩ := preds_spec ho h
   have hlt := hk.back i o ho e q1 q2
   rcases q3 with q3 | q3
   ·omega
   ·have := ih e.on hlt j q3; omega
theorem preds_closed {ops : Array Oper} (hk : DrOk ops) {S : Nat → Prop} (hS : ∀ i o, ops[i]? = some o → S i → ∀ e ∈ o.after.toList, Region.binds .any e = true → S e.on) :
  ∀ (i j : Nat), S i → ((predsGo ops.toList #[]).getD i 0).testBit j = true → S j := by
 intro i
 induction i using Nat.strongRecOn with
 | _ i ih =>
  intro j hi h
  cases ho : ops[i]? with
  | none =>
   rw [preds_out (by rw [Array.getElem?_eq_none_iff] at ho; exact ho)] at h
   simp at h
  | some o =>
   obtain ⟨e, q1, q2, q3⟩ := preds_spec ho h
   have hlt := hk.back i o ho e q1 q2
   have he := hS i o ho hi e q1 q2
   rcases q3 with q3 | q3
   ·rw [q3]; exact he
   ·exact ih e.on hlt j he q3
theorem pure_any {ρ : Operand → Value} {o : Oper} {id : Nat} {v : Value} {H1 : Hp} (hcat : cat o.op = .pure) (h : evOp cx ρ o id .nil = some (.val v, H1)) (K : Hp) : ∃ K1, evOp cx ρ o id K = some (.val v, K1) := by
 obtain ⟨_, K1, k2, _⟩ := evOp_mono ρ o id .nil (.val v) H1 K (fun i => K.get i) h (fun i => by rw [T.get_nil]; rfl)
 exact ⟨K1, k2⟩
theorem closedRun_same {ρ : Operand → Value} {o : Oper} {H H1 : Hp} {r : ANext} (h : closedRun cx ρ o H = some (r, H1)) : H1 = H := by
 unfold closedRun rval at h
 (repeat' split at h)
 all_goals first | (cases h; done) | (cases h; rfl)
theorem orElse_same {a : Res} {b : Unit → Res} {r : ANext} {H H1 : Hp} (h : orElse a b = some (r, H1)) (ha : a = some (r, H1) → H1 = H) (hb : b () = some (r, H1) → H1 = H) : H1 = H := by
 rcases orElse_spec h with h | h
 ·exact ha h
 ·exact hb h
theorem still_same {ρ : Operand → Value} {o : Oper} {id : Nat} {H H1 : Hp} {r : ANext} (hcat : cat o.op = .pure ∨ cat o.op = .load) (h : evOp cx ρ o id H = some (r, H1)) : H1 = H := by
 obtain ⟨dst, op, ty, pos, after, guard⟩ := o
 have leaf : ∀ {f : Res}, (∀ p, f = some p → p.2 = H) → f = some (r, H1) → H1 = H := fun hf e => hf _ e
 have part : ∀ t cs off, aPart cx t cs off H = some (r, H1) → H1 = H := by
  intro t cs off e
  unfold aPart rval at e
  (repeat' split at e)
  all_goals first | (cases e; done) | (cases e; rfl)
 cases op <;> first
  | (rcases hcat with hcat | hcat <;> simp [cat] at hcat; done)
  | skip
 all_goals simp only [evOp] at h
 case move => cases h; rfl
 case assign => cases h; rfl
 case pick => split at h <;> cases h; rfl
 case build =>
  unfold aBuild rval at h
  (repeat' split at h)
  all_goals first | (cases h; done) | (cases h; rfl)
 case load =>
  unfold aLoad rval at h
  (repeat' split at h)
  all_goals first | (cases h; done) | (cases h; rfl)
 case fieldAddr =>
  unfold aFieldAddr rval at h
  (repeat' split at h)
  all_goals first | (cases h; done) | (cases h; rfl)
 case indexAddr =>
  unfold aIndexAddr rval at h
  (repeat' split at h)
  all_goals first | (cases h; done) | (cases h; rfl)
 case field =>
  unfold aField at h
  split at h
  ·split at h
   ·cases h
   ·exact part _ _ _ h
  ·cases h
 case index =>
  split at h
  ·unfold aIndex at h
   split at h
   ·split at h
    ·cases h
    ·split at h
     ·exact part _ _ _ h
     ·cases h
   ·cases h
  ·exact closedRun_same h
 case slice =>
  split at h
  ·exact closedRun_same h
  ·exact closedRun_same h
  ·unfold aSlice rval at h
   (repeat' split at h)
   all_goals first | (cases h; done) | (cases h; rfl)
 case unOp => exact closedRun_same h
 case binOp =>
  refine orElse_same h closedRun_same (fun e => ?_)
  have eq : ∀ n t x y, aEq cx n t x y H = some (r, H1) → H1 = H := by
   intro n t x y e
   unfold aEq rval at e
   (repeat' split at e)
   all_goals first | (cases e; done) | (cases e; rfl)
  split at e
  ·exact eq _ _ _ _ e
  ·exact eq _ _ _ _ e
  ·cases e
 case makeInterface => split at h <;> cases h; rfl
 case makeFunc => cases h; rfl
 case extract =>
  split at h
  ·split at h <;> cases h; rfl
  ·cases h
 case nilCheck => split at h <;> cases h <;> rfl
 case typeAssert =>
  split at h
  ·exact closedRun_same h
  ·unfold aTypeAssert assertHolds assertFails rval at h
   (repeat' split at h)
   all_goals first | (cases h; done) | (cases h; rfl)
 case lookup =>
  unfold aLookup rval at h
  (repeat' split at h)
  all_goals first | (cases h; done) | (cases h; rfl)
 case call c =>
  obtain ⟨callee, cargs, argTypes⟩ := c
  cases callee with
  | builtin b =>
   cases b with
   | append => simp [cat] at hcat
   | copy => simp [cat] at hcat
   | len =>
    refine orElse_same h (fun e => ?_) closedRun_same
    unfold aLen rval at e
    (repeat' split at e)
    all_goals first | (cases e; done) | (cases e; rfl)
   | _ => exact closedRun_same h
  | value f => simp [cat] at hcat
  | invoke r n => simp [cat] at hcat
theorem alloc_shape {ρ : Operand → Value} {o : Oper} {id : Nat} {H1 : Hp} {v : Value} {ob : AObj} (hcat : cat o.op = .alloc) (h : evOp cx ρ o id .nil = some (.val v, H1)) (hg : H1.get id = some ob) (K : Hp) : evOp cx ρ o id K = some (.val v, K.set id ob) := by
 obtain ⟨dst, op, ty, pos, after, guard⟩ := o
 have set : ∀ (f : Hp → Res) (u : Value) (x : AObj), (∀ H, f H = rval u (H.set id x)) → f .nil = some (.val v, H1) → f K = some (.val v, K.set id ob) := by
  intro f u x hf e
  rw [hf] at e ⊢
  unfold rval at e ⊢
  cases e
  rw [T.get_set_same] at hg
  cases hg
  rfl
 cases op <;> first
  | (simp [cat] at hcat; done)
  | skip
 case call c =>
  obtain ⟨callee, cargs, argTypes⟩ := c
  cases callee with
  | builtin b => cases b <;> simp [cat] at hcat
  | value f => simp [cat] at hcat
  | invoke r n => simp [cat] at hcat
 all_goals simp only [evOp] at h ⊢
 case alloc e =>
  simp only [aAlloc] at h ⊢
  cases hi : cx.info e with
  | none => rw [hi] at h; cases h
  | some i =>
   rw [hi] at h
   simp only at h ⊢
   cases hz : i.zero with
   | none => rw [hz] at h; cases h
   | some z =>
    rw [hz] at h
    exact set (fun H => aNew id e i.size z.cells.toList H) _ _ (fun H => rfl) h
 case box e x =>
  simp only [aBox] at h ⊢
  cases hi : cx.info e with
  | none => rw [hi] at h; cases h
  | some i =>
   rw [hi] at h
   exact set (fun H => aNew id e i.size (ρ x).cells.toList H) _ _ (fun H => rfl) h
 case buildSlice t len parts =>
  simp only [aBuildSlice] at h ⊢
  cases hu : cx.und t with
  | none => rw [hu] at h; cases h
  | some d =>
   rw [hu] at h
   cases d with
   | slice elem =>
    simp only at h ⊢
    cases hi : cx.info elem with
    | none => rw [hi] at h; cases h
    | some i =>
     rw [hi] at h
     simp only at h ⊢
     cases hz : i.zero with
     | none => rw [hz] at h; cases h
     | some z =>
      rw [hz] at h
      simp only at h ⊢
      cases hk : (Nat.ble (len * i.size) 1048576 && !Nat.beq (len * i.size) 0 && Nat.beq z.cells.size i.size) with
      | false => rw [hk] at h; cases h
      | true =>
       rw [hk] at h
       simp only at h ⊢
       cases hf : Instr.fill (fun k => some (k * i.size, i.size)) ((Array.range (len * i.size)).map fun k => z.cells[k % z.cells.size]!) (parts.map fun (i, x) => (i, ρ x)).toList with
       | none => rw [hf] at h; cases h
       | some cells =>
        rw [hf] at h
        exact set (fun H => rval (.slice (some ⟨id, 0, none⟩) len len) (H.set id (mkCells id elem i.size true cells.toList))) _ _ (fun H => rfl) h
   | _ => cases h
 case makeMap t r =>
  cases r with
  | none => exact set (fun H => aMakeMap id H) _ _ (fun H => rfl) h
  | some r =>
   have := closedRun_same h
   rw [this] at hg
   cases hg
 case makeSlice t l c =>
  simp only [aMakeSlice] at h ⊢
  split at h
  ·rename_i elem a b hu h1 h2
   cases hi : cx.info elem with
   | none => rw [hi] at h; cases h
   | some i =>
    rw [hi] at h
    simp only at h ⊢
    cases hz : i.zero with
    | none => rw [hz] at h; cases h
    | some z =>
     rw [hz] at h
     simp only at h ⊢
     split at h
     ·rename_i hk
      rw [if_pos hk]
      exact set (fun H => rval (.slice (some ⟨id, 0, none⟩) a b) (H.set id (mkCells id elem i.size true ((Array.range (b * i.size)).map fun k => z.cells[k % z.cells.size]!).toList))) _ _ (fun H => rfl) h
     ·cases h
  ·cases h
variable {cx : Cx}
inductive Rec where
 | unw
 | pure (v : Value)
 | alloc (v : Value) (ob : AObj)
 | load (v : Value)
 | eff (v : Value)
def Rec.val : Rec → Value
 | .unw => undef
 | .pure v | .alloc v _ | .load v | .eff v => v
def writer (ops : Array Oper) (t : Tmp) : Option Nat := (List.range ops.size).find? fun i => ((ops[i]?).bind (·.dst)) == some t
noncomputable def tmS (ops : Array Oper) (rc : Nat → Rec) (tm0 : T Value) (S : Nat → Prop) (t : Tmp) : Value :=
 match writer ops t with
 | none => St.eval tm0 (.tmp t)
 | some p => open Classical in if S p then (rc p).val else St.eval tm0 (.tmp t)
theorem writer_some {ops : Array Oper} (hk : DrOk ops) {i : Nat} {o : Oper} {t : Tmp} (ho : ops[i]? = some o) (hd : o.dst = some t) : writer ops t = some i := by
 have hi : i < ops.size := (Array.getElem?_eq_some_iff.1 ho).1
 unfold writer
 rw [List.find?_eq_some_iff_append]
 refine ⟨by simp [ho, hd], List.range i, (List.range' (i + 1) (ops.size - (i + 1))), ?_, fun j hj => ?_⟩
 ·obtain ⟨m, hm⟩ : ∃ m, ops.size = i + (m + 1) := ⟨ops.size - i - 1, by omega⟩
  rw [List.range_eq_range', List.range_eq_range', hm, ← List.range'_append_1, show i + (m + 1) - (i + 1) = m by omega, Nat.zero_add, List.range'_succ]
 ·have hj' : j < i := by simpa using hj
  cases hoj : ops[j]? with
  | none => simp
  | some p =>
   simp only [Option.bind_some, Bool.not_eq_true', beq_eq_false_iff_ne, ne_eq]
   intro e
   have := hk.one j i p o t hoj ho e hd
   omega
theorem writer_spec {ops : Array Oper} {t : Tmp} {i : Nat} (h : writer ops t = some i) : ∃ o, ops[i]? = some o ∧ o.dst = some t := by
 have := List.find?_some h
 simp only [beq_iff_eq] at this
 cases ho : ops[i]? with
 | none => rw [ho] at this; cases this
 | some o => rw [ho] at this; exact ⟨o, rfl, this⟩
noncomputable def pend (rc : Nat → Rec) (base n : Nat) (S : Nat → Prop) (idx : Nat) : Option AObj :=
 open Classical in
 if base ≤ idx ∧ idx < base + n ∧ S (idx - base) then (match rc (idx - base) with | .alloc _ ob => some ob | _ => none) else none
theorem tmS_congr {ops : Array Oper} {rc rc' : Nat → Rec} {tm0 : T Value} {S S' : Nat → Prop} {t : Tmp} (h : ∀ p o, ops[p]? = some o → o.dst = some t → (S p ↔ S' p) ∧ (S p → rc p = rc' p)) : tmS ops rc tm0 S t = tmS ops rc' tm0 S' t := by
 unfold tmS
 cases hw : writer ops t with
 | none => rfl
 | some p =>
  obtain ⟨o, h1, h2⟩ := writer_spec hw
  obtain ⟨h3, h4⟩ := h p o h1 h2
  simp only
  by_cases hs : S p
  ·rw [if_pos hs, if_pos (h3.1 hs), h4 hs]
  ·rw [if_neg hs, if_neg (fun q => hs (h3.2 q))]
theorem pend_congr {rc rc' : Nat → Rec} {base n : Nat} {S S' : Nat → Prop} {idx : Nat} (h : ∀ j, j < n → (S j ↔ S' j) ∧ (S j → rc j = rc' j)) : pend rc base n S idx = pend rc' base n S' idx := by
 unfold pend
 by_cases hc : base ≤ idx ∧ idx < base + n ∧ S (idx - base)
 ·obtain ⟨h1, h2⟩ := h (idx - base) (by omega)
  rw [if_pos hc, if_pos ⟨hc.1, hc.2.1, h1.1 hc.2.2⟩, h2 hc.2.2]
 ·rw [if_neg hc, if_neg]
  intro q
  exact hc ⟨q.1, q.2.1, (h (idx - base) (by omega)).1.2 q.2.2⟩
def Is (K G : Hp) (X : Nat → Option AObj) : Prop := ∀ idx, K.get idx = (G.get idx).or (X idx)
theorem writer_none_putT {ops : Array Oper} {rc : Nat → Rec} {tm tm' tm0 : T Value} {nt i : Nat} {o : Oper} {S : Nat → Prop} (hk : DrOk ops) (ho : ops[i]? = some o) {r : Rec} (hS : ¬ S i) (h : ∀ t, St.eval tm (.tmp t) = tmS ops rc tm0 S t) (hp : putT tm nt o.dst r.val = some tm') :
  ∀ t, St.eval tm' (.tmp t) = tmS ops (fun j => if j = i then r else rc j) tm0 (fun j => S j ∨ j = i) t := by
 intro t
 unfold putT at hp
 by_cases hd : o.dst = some t
 ·have hw := writer_some hk ho hd
  unfold tmS
  rw [hw]
  simp only
  rw [if_pos (Or.inr rfl)]
  rw [hd] at hp
  simp only at hp
  cases hb : Nat.blt t nt with
  | false => rw [hb] at hp; cases hp
  | true =>
   rw [hb] at hp; cases hp
   simp only [St.eval, T.get_set_same, if_true]
 ·have same : St.eval tm' (.tmp t) = St.eval tm (.tmp t) := by
   cases hdd : o.dst with
   | none => rw [hdd] at hp; cases hp; rfl
   | some d =>
    rw [hdd] at hp
    simp only at hp
    cases hb : Nat.blt d nt with
    | false => rw [hb] at hp; cases hp
    | true =>
     rw [hb] at hp; cases hp
     have : t ≠ d := by intro e; exact hd (by rw [hdd, e])
     simp only [St.eval, T.get_set_ne _ _ _ _ this]
  rw [same, h t]
  refine tmS_congr (fun p q hp hq => ?_)
  have hpi : p ≠ i := by
   intro e
   subst e
   rw [ho] at hp
   cases hp
   exact hd hq
  exact ⟨⟨.inl, fun z => z.resolve_right hpi⟩, fun _ => by rw [if_neg hpi]⟩
def wG (o : Oper) (ops : Array Oper) (tm : T Value) (b : Bool) : Prop := guardOk ops tm o = true ∧ wantedT o ops tm = b
def Fact (cx : Cx) (C : Caller) (ops : Array Oper) (base : Nat) (preds : Nat → Nat → Prop) (rc : Nat → Rec) (es : List Nat) (Gs : Nat → Hp) (Ns : Nat → Nat) (i : Nat) (o : Oper) (tm : T Value) : Prop :=
 match rc i with
 | .unw => wG o ops tm false
 | .pure v => wG o ops tm true ∧ constsOk cx tm o = true ∧ cat o.op = .pure ∧ ∃ H1, evOp cx (St.eval tm) o (base + i) .nil = some (.val v, H1)
 | .alloc v ob => wG o ops tm true ∧ constsOk cx tm o = true ∧ cat o.op = .alloc ∧ ∃ H1, evOp cx (St.eval tm) o (base + i) .nil = some (.val v, H1) ∧ H1.get (base + i) = some ob
 | .load v => wG o ops tm true ∧ constsOk cx tm o = true ∧ cat o.op = .load ∧ ∀ s, s ≤ es.length → (∀ s' e, es[s']? = some e → (s' < s → ¬ preds e i) ∧ (s ≤ s' → ¬ preds i e)) →
   ∃ M H1, Is M (Gs s) (pend rc base ops.size (preds i)) ∧ evOp cx (St.eval tm) o (base + i) M = some (.val v, H1)
 | .eff v => wG o ops tm true ∧ constsOk cx tm o = true ∧ cat o.op = .effect ∧ ∃ s, es[s]? = some i ∧ ∃ M, Is M (Gs s) (pend rc base ops.size (preds i)) ∧ evFull cx C (St.eval tm) o M (Ns s) = some (v, Gs (s + 1), Ns (s + 1))
structure DrInv (cx : Cx) (C : Caller) (ops : Array Oper) (base : Nat) (tm0 : T Value) (H0 : Hp) (k : Nat) (D : Dr) (rc : Nat → Rec) (es : List Nat) (Gs : Nat → Hp) (Ns : Nat → Nat) : Prop where
 g0 : Gs 0 = H0
 n0 : Ns 0 = base + ops.size
 G : D.G = Gs es.length
 nx : D.nx = Ns es.length
 esk : ∀ e ∈ es, e < k
 stages : ∀ s e, es[s]? = some e → (e, Gs s) ∈ D.stages
 last : (D.stages = [] ∧ es = []) ∨ ∃ e g r es', D.stages = (e, g) :: r ∧ es = es' ++ [e]
 order : ∀ s e e', es[s]? = some e → es[s + 1]? = some e' → ((predsGo ops.toList #[]).getD e' 0).testBit e = true
 all : ∀ G mask, Is (minHeap G D.all mask) G (pend rc base ops.size (fun j => mask.testBit j = true ∧ j < k))
 loads : ∀ i v, i < k → rc i = .load v → ∃ o tm, ops[i]? = some o ∧ (i, o, tm, v) ∈ D.loads ∧ ∀ t, St.eval tm (.tmp t) = tmS ops rc tm0 (· < i) t
 tm : ∀ t, St.eval D.tm (.tmp t) = tmS ops rc tm0 (· < k) t
 up : ∀ s, s < es.length → Ns s ≤ Ns (s + 1) ∧ Kept (Gs s) (Gs (s + 1))
 notin : ∀ i, i < k → (∀ v, rc i ≠ .eff v) → i ∉ es
 fact : ∀ i o, i < k → ops[i]? = some o → ∃ tm, (∀ t, St.eval tm (.tmp t) = tmS ops rc tm0 (· < i) t) ∧ Fact cx C ops base (fun a b => ((predsGo ops.toList #[]).getD a 0).testBit b = true) rc es Gs Ns i o tm
theorem eval_ext {a b : T Value} (h : ∀ t, St.eval a (.tmp t) = St.eval b (.tmp t)) : St.eval a = St.eval b := by
 funext x
 cases x with
 | tmp t => exact h t
 | _ => rfl
theorem Is.congr {K G : Hp} {X Y : Nat → Option AObj} (h : Is K G X) (e : ∀ i, X i = Y i) : Is K G Y := fun i => by rw [h i, e i]
section
variable {C : Caller} {ops : Array Oper} {base : Nat} {tm0 : T Value} {H0 : Hp} {k : Nat} {D : Dr} {rc : Nat → Rec} {es : List Nat} {Gs : Nat → Hp} {Ns : Nat → Nat}
abbrev Pr (ops : Array Oper) (a b : Nat) : Prop := ((predsGo ops.toList #[]).getD a 0).testBit b = true
theorem upd_ne {r : Rec} {i : Nat} (h : i ≠ k) : (fun j => if j = k then r else rc j) i = rc i := by simp [h]
theorem Fact.next (hk : DrOk ops) {i : Nat} {o : Oper} {tm : T Value} {r : Rec} (hi : i < k) (h : Fact cx C ops base (Pr ops) rc es Gs Ns i o tm) : Fact cx C ops base (Pr ops) (fun j => if j = k then r else rc j) es Gs Ns i o tm := by
 have hp : ∀ idx, pend rc base ops.size (Pr ops i) idx = pend (fun j => if j = k then r else rc j) base ops.size (Pr ops i) idx := fun idx =>
  pend_congr (fun j _ => ⟨Iff.rfl, fun hj => by have := preds_lt hk i j hj; rw [if_neg (by omega)]⟩)
 unfold Fact at h ⊢
 rw [upd_ne (by omega)]
 cases hr : rc i with
 | unw => rw [hr] at h; exact h
 | pure v => rw [hr] at h; exact h
 | alloc v ob => rw [hr] at h; exact h
 | load v =>
  rw [hr] at h
  obtain ⟨h1, h2, h3, h4⟩ := h
  refine ⟨h1, h2, h3, fun s hs hc => ?_⟩
  obtain ⟨M, H1, q1, q2⟩ := h4 s hs hc
  exact ⟨M, H1, q1.congr hp, q2⟩
 | eff v =>
  rw [hr] at h
  obtain ⟨h1, h2, h3, s, h4, M, q1, q2⟩ := h
  exact ⟨h1, h2, h3, s, h4, M, q1.congr hp, q2⟩
theorem all_next (h : ∀ G mask, Is (minHeap G D.all mask) G (pend rc base ops.size (fun j => mask.testBit j = true ∧ j < k))) {r : Rec} (hr : ∀ v ob, r ≠ .alloc v ob) :
  ∀ G mask, Is (minHeap G D.all mask) G (pend (fun j => if j = k then r else rc j) base ops.size (fun j => mask.testBit j = true ∧ j < k + 1)) := by
 intro G mask
 refine (h G mask).congr (fun idx => ?_)
 unfold pend
 by_cases he : idx - base = k
 ·rw [if_neg (fun q => by have := q.2.2.2; omega)]
  split
  ·show none = (match (if idx - base = k then r else rc (idx - base)) with | .alloc _ ob => some ob | _ => none)
   rw [if_pos he]
   cases r with
   | alloc v ob => exact absurd rfl (hr v ob)
   | _ => rfl
  ·rfl
 ·by_cases hc : base ≤ idx ∧ idx < base + ops.size ∧ mask.testBit (idx - base) = true ∧ idx - base < k
  ·rw [if_pos hc, if_pos ⟨hc.1, hc.2.1, hc.2.2.1, by omega⟩]
   show _ = (match (if idx - base = k then r else rc (idx - base)) with | .alloc _ ob => some ob | _ => none)
   rw [if_neg he]
  ·rw [if_neg hc, if_neg (fun q => hc ⟨q.1, q.2.1, q.2.2.1, by have := q.2.2.2; omega⟩)]
theorem DrInv.step (hk : DrOk ops) (h : DrInv cx C ops base tm0 H0 k D rc es Gs Ns) {o : Oper} (ho : ops[k]? = some o) {r : Rec} (hne : ∀ v, r ≠ .eff v) {nt : Nat} {tm : T Value} (hp : putT D.tm nt o.dst r.val = some tm) {D1 : Dr}
  (hD : D1.tm = tm ∧ D1.G = D.G ∧ D1.nx = D.nx ∧ D1.stages = D.stages) (hall : ∀ G mask, Is (minHeap G D1.all mask) G (pend (fun j => if j = k then r else rc j) base ops.size (fun j => mask.testBit j = true ∧ j < k + 1)))
  (hl : ∀ l ∈ D.loads, l ∈ D1.loads) (hl2 : ∀ v, r = .load v → (k, o, D.tm, v) ∈ D1.loads) (hf : Fact cx C ops base (Pr ops) (fun j => if j = k then r else rc j) es Gs Ns k o D.tm) :
  DrInv cx C ops base tm0 H0 (k + 1) D1 (fun j => if j = k then r else rc j) es Gs Ns := by
 have tmc : ∀ i t, i ≤ k → tmS ops rc tm0 (· < i) t = tmS ops (fun j => if j = k then r else rc j) tm0 (· < i) t := fun i t hi =>
  tmS_congr (fun p q _ _ => ⟨Iff.rfl, fun hp => by rw [if_neg (by omega)]⟩)
 refine ⟨h.g0, h.n0, by rw [hD.2.1]; exact h.G, by rw [hD.2.2.1]; exact h.nx, fun e he => by have := h.esk e he; omega, fun s e he => by rw [hD.2.2.2]; exact h.stages s e he, by rw [hD.2.2.2]; exact h.last, h.order, hall, fun i v hi hr => ?_, fun t => ?_, h.up, fun i hi hr => ?_, fun i p hi hpi => ?_⟩
 ·by_cases e : i = k
  ·subst e
   rw [if_pos rfl] at hr
   exact ⟨o, D.tm, ho, hl2 v hr, fun t => by rw [h.tm t]; exact tmc i t (Nat.le_refl _)⟩
  ·rw [if_neg e] at hr
   obtain ⟨p, tm', q1, q2, q3⟩ := h.loads i v (by omega) hr
   exact ⟨p, tm', q1, hl _ q2, fun t => by rw [q3 t]; exact tmc i t (by omega)⟩
 ·rw [hD.1, writer_none_putT (rc := rc) (S := (· < k)) hk ho (Nat.lt_irrefl k) h.tm hp t]
  exact tmS_congr (fun p q _ _ => ⟨⟨fun z => by rcases z with z | z <;> omega, fun z => by omega⟩, fun _ => rfl⟩)
 ·by_cases e : i = k
  ·subst e; intro hm; have := h.esk _ hm; omega
  ·rw [if_neg e] at hr
   exact h.notin i (by omega) hr
 ·by_cases e : i = k
  ·subst e
   rw [ho] at hpi; cases hpi
   exact ⟨D.tm, fun t => by rw [h.tm t]; exact tmc i t (Nat.le_refl _), hf⟩
  ·obtain ⟨tm', q1, q2⟩ := h.fact i p (by omega) hpi
   exact ⟨tm', fun t => by rw [q1 t]; exact tmc i t (by omega), q2.next hk (by omega)⟩
end
variable {cx : Cx}
section
variable {C : Caller} {ops : Array Oper} {base : Nat} {tm0 : T Value} {H0 : Hp} {nt : Nat}
theorem Is.minHeap {G : Hp} {rc : Nat → Rec} {D : Dr} {k i : Nat} (hk : DrOk ops) (h : ∀ G mask, Is (minHeap G D.all mask) G (pend rc base ops.size (fun j => mask.testBit j = true ∧ j < k))) (hi : i ≤ k) :
  Is (Go.Ev.minHeap G D.all ((predsGo ops.toList #[]).getD i 0)) G (pend rc base ops.size (Pr ops i)) :=
 (h G _).congr (fun idx => pend_congr (fun j _ => ⟨⟨fun q => q.1, fun q => ⟨q, by have := preds_lt hk i j q; omega⟩⟩, fun _ => rfl⟩))
theorem pend_upd {rc : Nat → Rec} {k i : Nat} {r : Rec} (hk : DrOk ops) (hi : i ≤ k) (idx : Nat) : pend rc base ops.size (Pr ops i) idx = pend (fun j => if j = k then r else rc j) base ops.size (Pr ops i) idx :=
 pend_congr (fun j _ => ⟨Iff.rfl, fun hj => by have := preds_lt hk i j hj; rw [if_neg (by omega)]⟩)
theorem drStep_inv (hC : MonoC C) (hk : DrOk ops) {k : Nat} {o : Oper} {D D1 : Dr} {rc : Nat → Rec} {es : List Nat} {Gs : Nat → Hp} {Ns : Nat → Nat} (h : DrInv cx C ops base tm0 H0 k D rc es Gs Ns) (ho : ops[k]? = some o)
  (hs : drStep cx C ops nt (predsGo ops.toList #[]) base k o D = some D1) : ∃ rc' es' Gs' Ns', DrInv cx C ops base tm0 H0 (k + 1) D1 rc' es' Gs' Ns' := by
 have hkn : k < ops.size := (Array.getElem?_eq_some_iff.1 ho).1
 unfold drStep at hs
 simp only at hs
 cases hgd : guardOk ops D.tm o with
 | false => rw [hgd] at hs; cases hs
 | true =>
 rw [hgd] at hs
 simp only at hs
 cases hw : wantedT o ops D.tm with
 | false =>
  rw [hw] at hs
  simp only at hs
  cases hp : putT D.tm nt o.dst undef with
  | none => rw [hp] at hs; cases hs
  | some tm =>
   rw [hp] at hs
   cases hs
   exact ⟨_, es, Gs, Ns, h.step hk ho (r := .unw) (fun v e => by cases e) (tm := tm) hp ⟨rfl, rfl, rfl, rfl⟩ (all_next h.all (fun v ob e => by cases e)) (fun l q => q) (fun v e => by cases e)
    (by unfold Fact; simp only [if_true]; exact ⟨hgd, hw⟩)⟩
 | true =>
  rw [hw] at hs
  simp only at hs
  cases hco : constsOk cx D.tm o with
  | false => rw [hco] at hs; cases hs
  | true =>
   rw [hco] at hs
   simp only at hs
   cases hcat : cat o.op with
   | pure =>
    rw [hcat] at hs
    simp only at hs
    cases he : evOp cx (St.eval D.tm) o (base + k) .nil with
    | none => rw [he] at hs; cases hs
    | some p =>
     obtain ⟨r, H1⟩ := p
     rw [he] at hs
     cases r with
     | val v =>
      simp only at hs
      cases hp : putT D.tm nt o.dst v with
      | none => rw [hp] at hs; cases hs
      | some tm =>
       rw [hp] at hs
       cases hs
       exact ⟨_, es, Gs, Ns, h.step hk ho (r := .pure v) (fun v e => by cases e) (tm := tm) hp ⟨rfl, rfl, rfl, rfl⟩ (all_next h.all (fun v ob e => by cases e)) (fun l q => q) (fun v e => by cases e)
        (by unfold Fact; simp only [if_true]; exact ⟨⟨hgd, hw⟩, hco, hcat, H1, he⟩)⟩
     | _ => cases hs
   | alloc =>
    rw [hcat] at hs
    simp only at hs
    cases he : evOp cx (St.eval D.tm) o (base + k) .nil with
    | none => rw [he] at hs; cases hs
    | some p =>
     obtain ⟨r, H1⟩ := p
     rw [he] at hs
     cases r with
     | val v =>
      simp only at hs
      cases hg : H1.get (base + k) with
      | none => rw [hg] at hs; cases hs
      | some ob =>
       rw [hg] at hs
       simp only at hs
       cases hp : putT D.tm nt o.dst v with
       | none => rw [hp] at hs; cases hs
       | some tm =>
        rw [hp] at hs
        cases hs
        refine ⟨_, es, Gs, Ns, h.step hk ho (r := .alloc v ob) (fun v e => by cases e) (tm := tm) hp ⟨rfl, rfl, rfl, rfl⟩ ?_ (fun l q => q) (fun v e => by cases e)
         (by unfold Fact; simp only [if_true]; exact ⟨⟨hgd, hw⟩, hco, hcat, H1, he, hg⟩)⟩
        intro G mask idx
        have hold := h.all G mask
        simp only [minHeap]
        have pnone : pend rc base ops.size (fun j => mask.testBit j = true ∧ j < k) (base + k) = none := by
         unfold pend
         rw [if_neg (fun q => by have := q.2.2.2; omega)]
        have pold : ∀ idx, idx ≠ base + k → pend (fun j => if j = k then Rec.alloc v ob else rc j) base ops.size (fun j => mask.testBit j = true ∧ j < k + 1) idx = pend rc base ops.size (fun j => mask.testBit j = true ∧ j < k) idx := by
         intro idx hne
         unfold pend
         by_cases hc : base ≤ idx ∧ idx < base + ops.size ∧ mask.testBit (idx - base) = true ∧ idx - base < k
         ·rw [if_pos hc, if_pos ⟨hc.1, hc.2.1, hc.2.2.1, by omega⟩]
          show (match (if idx - base = k then Rec.alloc v ob else rc (idx - base)) with | .alloc _ ob => some ob | _ => none) = _
          rw [if_neg (by omega)]
          try (cases rc (idx - base) <;> rfl)
         ·rw [if_neg hc, if_neg (fun q => hc ⟨q.1, q.2.1, q.2.2.1, by have := q.2.2.2; have := q.1; omega⟩)]
        cases hb : mask.testBit k with
        | false =>
         simp only
         rw [hold idx]
         by_cases e : idx = base + k
         ·subst e
          rw [pnone]
          unfold pend
          rw [if_neg (fun q => by have := q.2.2.1; rw [Nat.add_sub_cancel_left, hb] at this; cases this)]
         ·rw [pold idx e]
        | true =>
         simp only
         have pnew : pend (fun j => if j = k then Rec.alloc v ob else rc j) base ops.size (fun j => mask.testBit j = true ∧ j < k + 1) (base + k) = some ob := by
          unfold pend
          rw [if_pos ⟨Nat.le_add_right _ _, by omega, by rw [Nat.add_sub_cancel_left]; exact hb, by omega⟩]
          simp
         have hgk := hold (base + k)
         rw [pnone] at hgk
         cases hq : (minHeap G D.all mask).get (base + k) with
         | some x =>
          simp only
          rw [hq] at hgk
          rw [hold idx]
          by_cases e : idx = base + k
          ·subst e
           rw [pnone, pnew]
           cases hgg : G.get (base + k) with
           | none => rw [hgg] at hgk; cases hgk
           | some y => rfl
          ·rw [pold idx e]
         | none =>
          simp only
          rw [T.get_set]
          by_cases e : idx = base + k
          ·subst e
           rw [if_pos rfl, pnew]
           rw [hq] at hgk
           cases hgg : G.get (base + k) with
           | none => rfl
           | some y => rw [hgg] at hgk; cases hgk
          ·rw [if_neg e, hold idx, pold idx e]
     | _ => cases hs
   | load =>
    rw [hcat] at hs
    simp only at hs
    cases he : evOp cx (St.eval D.tm) o (base + k) (minHeap D.G D.all ((predsGo ops.toList #[]).getD k 0)) with
    | none => rw [he] at hs; cases hs
    | some p =>
     obtain ⟨r, H1⟩ := p
     rw [he] at hs
     cases r with
     | val v =>
      simp only at hs
      cases hall : D.stages.all (fun st => ((predsGo ops.toList #[]).getD k 0).testBit st.1 || sameLoad cx o D.tm (base + k) (minHeap st.2 D.all ((predsGo ops.toList #[]).getD k 0)) v) with
      | false => rw [hall] at hs; cases hs
      | true =>
       rw [hall] at hs
       simp only at hs
       cases hp : putT D.tm nt o.dst v with
       | none => rw [hp] at hs; cases hs
       | some tm =>
        rw [hp] at hs
        cases hs
        refine ⟨_, es, Gs, Ns, h.step hk ho (r := .load v) (fun v e => by cases e) (tm := tm) hp ⟨rfl, rfl, rfl, rfl⟩ (all_next h.all (fun v ob e => by cases e)) (fun l q => List.mem_cons_of_mem _ q) (fun v e => by cases e; exact List.mem_cons_self) ?_⟩
        unfold Fact
        simp only [if_true]
        refine ⟨⟨hgd, hw⟩, hco, hcat, fun s hs hc => ?_⟩
        rcases Nat.lt_or_ge s es.length with hlt | hge
        ·have hes : es[s]? = some es[s] := List.getElem?_eq_getElem hlt
         have hmem := h.stages s _ hes
         have := List.all_eq_true.1 hall _ hmem
         simp only [Bool.or_eq_true] at this
         rcases this with q | q
         ·exact absurd q ((hc s _ hes).2 (Nat.le_refl _))
         ·obtain ⟨H2, q2⟩ := sameLoad_spec q
          exact ⟨_, H2, (Is.minHeap hk h.all (Nat.le_refl _)).congr (pend_upd hk (Nat.le_refl _)), q2⟩
        ·have : s = es.length := by omega
         subst this
         rw [← h.G]
         exact ⟨_, H1, (Is.minHeap hk h.all (Nat.le_refl _)).congr (pend_upd hk (Nat.le_refl _)), he⟩
     | _ => cases hs
   | effect =>
    rw [hcat] at hs
    simp only at hs
    cases hla : lastIn ((predsGo ops.toList #[]).getD k 0) D.stages with
    | false => rw [hla] at hs; cases hs
    | true =>
     rw [hla] at hs
     simp only at hs
     cases he : evFull cx C (St.eval D.tm) o (minHeap D.G D.all ((predsGo ops.toList #[]).getD k 0)) D.nx with
     | none => rw [he] at hs; cases hs
     | some p =>
      obtain ⟨v, H1, nx1⟩ := p
      rw [he] at hs
      simp only at hs
      cases hall : D.loads.all (fun l => ((predsGo ops.toList #[]).getD k 0).testBit l.1 || sameLoad cx l.2.1 l.2.2.1 (base + l.1) (minHeap H1 D.all ((predsGo ops.toList #[]).getD l.1 0)) l.2.2.2) with
      | false => rw [hall] at hs; cases hs
      | true =>
       rw [hall] at hs
       simp only at hs
       cases hp : putT D.tm nt o.dst v with
       | none => rw [hp] at hs; cases hs
       | some tm =>
        rw [hp] at hs
        cases hs
        obtain ⟨u1, u2, _⟩ := evFull_mono hC he (G := minHeap D.G D.all ((predsGo ops.toList #[]).getD k 0)) (X := fun _ => none) (fun i => by simp) (fun i _ => rfl)
        have hGk : Kept D.G H1 := (minHeap_kept _ _ _).trans u2
        let rc' : Nat → Rec := fun j => if j = k then .eff v else rc j
        let Gs' : Nat → Hp := fun s => if s = es.length + 1 then H1 else Gs s
        let Ns' : Nat → Nat := fun s => if s = es.length + 1 then nx1 else Ns s
        have gold : ∀ s, s ≤ es.length → Gs' s = Gs s := fun s hs => if_neg (by omega)
        have nold : ∀ s, s ≤ es.length → Ns' s = Ns s := fun s hs => if_neg (by omega)
        have gnew : Gs' (es.length + 1) = H1 := if_pos rfl
        have nnew : Ns' (es.length + 1) = nx1 := if_pos rfl
        have esold : ∀ s e, (es ++ [k])[s]? = some e → (es[s]? = some e ∧ s < es.length) ∨ (s = es.length ∧ e = k) := by
         intro s e hse
         rcases Nat.lt_or_ge s es.length with q | q
         ·rw [List.getElem?_append_left q] at hse; exact .inl ⟨hse, q⟩
         ·rw [List.getElem?_append_right q] at hse
          have hz : s - es.length = 0 := by have := (List.getElem?_eq_some_iff.1 hse).1; simp at this; omega
          rw [hz] at hse
          simp at hse
          exact .inr ⟨by omega, hse.symm⟩
        have esin : ∀ s e, es[s]? = some e → (es ++ [k])[s]? = some e := fun s e q => by
         rw [List.getElem?_append_left (List.getElem?_eq_some_iff.1 q).1]; exact q
        have esk : (es ++ [k])[es.length]? = some k := by simp
        have tmc : ∀ i t, i ≤ k → tmS ops rc tm0 (· < i) t = tmS ops rc' tm0 (· < i) t := fun i t hi =>
         tmS_congr (fun p q _ _ => ⟨Iff.rfl, fun hp => (if_neg (by omega)).symm⟩)
        have rold : ∀ i, i ≠ k → rc' i = rc i := fun i hi => if_neg hi
        have rnew : rc' k = .eff v := if_pos rfl
        refine ⟨rc', es ++ [k], Gs', Ns', by rw [gold 0 (by omega)]; exact h.g0, by rw [nold 0 (by omega)]; exact h.n0, by rw [List.length_append]; exact gnew.symm, by rw [List.length_append]; exact nnew.symm, fun e hme => ?_, fun s e hse => ?_,
         .inr ⟨k, D.G, D.stages, es, rfl, rfl⟩, fun s e e' h1 h2 => ?_, all_next h.all (fun v ob e => by cases e), fun i v' hi hr => ?_, fun t => ?_, fun s hs => ?_, fun i hi hr => ?_, fun i p hi hpi => ?_⟩
        ·rcases List.mem_append.1 hme with q | q
         ·have := h.esk e q; omega
         ·simp at q; omega
        ·rcases esold s e hse with ⟨q1, q2⟩ | ⟨rfl, rfl⟩
         ·rw [gold s (by omega)]; exact List.mem_cons_of_mem _ (h.stages s e q1)
         ·rw [gold _ (Nat.le_refl _), ← h.G]; exact List.mem_cons_self
        ·rcases esold s e h1 with ⟨q1, q2⟩ | ⟨rfl, rfl⟩
         ·rcases esold (s + 1) e' h2 with ⟨q3, q4⟩ | ⟨q3, rfl⟩
          ·exact h.order s e e' q1 q3
          ·rcases h.last with ⟨l1, l2⟩ | ⟨e2, g2, r2, es2, l1, l2⟩
           ·rw [l2] at q1; simp at q1
           ·rw [l1] at hla
            have : e = e2 := by
             rw [l2] at q1 q3
             simp at q3
             rw [q3] at q1
             simp at q1
             exact q1.symm
            rw [this]
            exact hla
         ·have := (List.getElem?_eq_some_iff.1 h2).1
          simp at this
        ·by_cases e : i = k
         ·subst e; rw [rnew] at hr; cases hr
         ·rw [rold i e] at hr
          obtain ⟨p, tm', q1, q2, q3⟩ := h.loads i v' (by omega) hr
          exact ⟨p, tm', q1, q2, fun t => by rw [q3 t]; exact tmc i t (by omega)⟩
        ·rw [writer_none_putT (rc := rc) (S := (· < k)) (r := .eff v) hk ho (Nat.lt_irrefl k) h.tm hp t]
         exact tmS_congr (fun p q _ _ => ⟨⟨fun z => by rcases z with z | z <;> omega, fun z => by omega⟩, fun _ => rfl⟩)
        ·have hs2 : s ≤ es.length := by simp at hs; omega
         rcases Nat.lt_or_ge s es.length with q | q
         ·rw [gold s hs2, gold (s + 1) q, nold s hs2, nold (s + 1) q]; exact h.up s q
         ·have : s = es.length := by omega
          subst this
          rw [gold _ hs2, nold _ hs2, gnew, nnew, ← h.G, ← h.nx]
          exact ⟨u1, hGk⟩
        ·by_cases e : i = k
         ·subst e; exact absurd rnew (hr v)
         ·intro hm
          rcases List.mem_append.1 hm with q | q
          ·exact h.notin i (by omega) (fun v' => by rw [← rold i e]; exact hr v') q
          ·simp at q; exact e q
        ·by_cases e : i = k
         ·subst e
          rw [ho] at hpi; cases hpi
          refine ⟨D.tm, fun t => by rw [h.tm t]; exact tmc i t (Nat.le_refl _), ?_⟩
          unfold Fact
          rw [rnew]
          refine ⟨⟨hgd, hw⟩, hco, hcat, es.length, esk, _, ((Is.minHeap hk h.all (Nat.le_refl _)).congr (pend_upd (r := .eff v) hk (Nat.le_refl _))), ?_⟩
          rw [nold _ (Nat.le_refl _), gnew, nnew, ← h.nx, gold _ (Nat.le_refl _), ← h.G]
          exact he
         ·obtain ⟨tm', q1, q2⟩ := h.fact i p (by omega) hpi
          refine ⟨tm', fun t => by rw [q1 t]; exact tmc i t (by omega), ?_⟩
          have hp2 : ∀ idx, pend rc base ops.size (Pr ops i) idx = pend rc' base ops.size (Pr ops i) idx := pend_upd hk (by omega)
          unfold Fact at q2 ⊢
          rw [rold i e]
          cases hr : rc i with
          | unw => rw [hr] at q2; exact q2
          | pure v => rw [hr] at q2; exact q2
          | alloc v ob => rw [hr] at q2; exact q2
          | load v2 =>
           rw [hr] at q2
           obtain ⟨h1, h2, h3, h4⟩ := q2
           refine ⟨h1, h2, h3, fun s hs hc => ?_⟩
           rcases Nat.lt_or_ge es.length s with hlt | hge
           ·have hse : s = es.length + 1 := by simp at hs; omega
            have hnp := (hc es.length k esk).1 (by omega)
            obtain ⟨p2, tm2, l1, l2, l3⟩ := h.loads i v2 (by omega) hr
            rw [hpi] at l1; cases l1
            have := List.all_eq_true.1 hall _ l2
            simp only [Bool.or_eq_true] at this
            rcases this with q | q
            ·exact absurd q hnp
            ·obtain ⟨H2, q3⟩ := sameLoad_spec q
             have hext : St.eval tm2 = St.eval tm' := eval_ext (fun t => by rw [l3 t, q1 t])
             rw [hext] at q3
             rw [hse, gnew]
             exact ⟨_, H2, (Is.minHeap hk h.all (by omega)).congr hp2, q3⟩
           ·obtain ⟨M, H2, m1, m2⟩ := h4 s hge (fun s' e' hse => hc s' e' (esin s' e' hse))
            rw [gold s hge]
            exact ⟨M, H2, m1.congr hp2, m2⟩
          | eff v2 =>
           rw [hr] at q2
           obtain ⟨h1, h2, h3, s, h4, M, m1, m2⟩ := q2
           have hsl := (List.getElem?_eq_some_iff.1 h4).1
           refine ⟨h1, h2, h3, s, esin s i h4, M, ?_, ?_⟩
           ·rw [gold s (by omega)]; exact m1.congr hp2
           ·rw [gold (s + 1) hsl, nold (s + 1) hsl, nold s (by omega)]; exact m2
theorem drOps_inv (hC : MonoC C) (hk : DrOk ops) : ∀ (l : List (Oper × Nat)) (k : Nat) (D D1 : Dr) (rc : Nat → Rec) (es : List Nat) (Gs : Nat → Hp) (Ns : Nat → Nat), DrInv cx C ops base tm0 H0 k D rc es Gs Ns →
  (∀ j p, l[j]? = some p → ops[k + j]? = some p.1 ∧ p.2 = k + j) → drOps cx C ops nt (predsGo ops.toList #[]) base l D = some D1 → ∃ rc' es' Gs' Ns', DrInv cx C ops base tm0 H0 (k + l.length) D1 rc' es' Gs' Ns'
 | [], k, D, D1, rc, es, Gs, Ns, h, _, e => by simp only [drOps] at e; cases e; exact ⟨rc, es, Gs, Ns, h⟩
 | (o, j) :: l, k, D, D1, rc, es, Gs, Ns, h, hl, e => by
  obtain ⟨h1, h2⟩ := hl 0 (o, j) rfl
  simp only [Nat.add_zero] at h1 h2
  subst h2
  simp only [drOps] at e
  cases hs : drStep cx C ops nt (predsGo ops.toList #[]) base j o D with
  | none => rw [hs] at e; cases e
  | some D2 =>
   rw [hs] at e
   obtain ⟨rc', es', Gs', Ns', h'⟩ := drStep_inv hC hk h h1 hs
   have := drOps_inv hC hk l (j + 1) D2 D1 rc' es' Gs' Ns' h' (fun i p q => by
    have := hl (i + 1) p (by simpa using q)
    rw [show j + 1 + i = j + (i + 1) by omega]; exact this) e
   rw [show j + ((o, j) :: l).length = j + 1 + l.length by simp; omega]
   exact this
end
variable {cx : Cx}
theorem putT_dst {tm tm' : T Value} {nt : Nat} {dst : Option Tmp} {v : Value} (h : putT tm nt dst v = some tm') : ∀ d, dst = some d → d < nt := by
 intro d hd
 subst hd
 unfold putT at h
 simp only at h
 cases hb : Nat.blt d nt with
 | false => rw [hb] at h; cases h
 | true => exact Nat.le_of_ble_eq_true hb
theorem drStep_dst {C : Caller} {ops : Array Oper} {nt : Nat} {preds : Array Nat} {base j : Nat} {o : Oper} {D D1 : Dr} (h : drStep cx C ops nt preds base j o D = some D1) : ∀ d, o.dst = some d → d < nt := by
 unfold drStep at h
 simp only at h
 (repeat' split at h)
 all_goals first
  | (cases h; done)
  | (exact putT_dst (by assumption))
theorem drOps_dst {C : Caller} {ops : Array Oper} {nt : Nat} {preds : Array Nat} {base : Nat} : ∀ (l : List (Oper × Nat)) (D D1 : Dr), drOps cx C ops nt preds base l D = some D1 → ∀ p ∈ l, ∀ d, p.1.dst = some d → d < nt
 | [], D, D1, _, p, hp => by cases hp
 | (o, j) :: l, D, D1, h, p, hp => by
  simp only [drOps] at h
  cases hs : drStep cx C ops nt preds base j o D with
  | none => rw [hs] at h; cases h
  | some D2 =>
   rw [hs] at h
   rcases List.mem_cons.1 hp with rfl | hp
   ·exact drStep_dst hs
   ·exact drOps_dst l D2 D1 h p hp
section
variable {C : Caller} {ops : Array Oper} {base : Nat} {tm0 : T Value} {H0 : Hp} {nt : Nat} {n : Nat} {D : Dr} {rc : Nat → Rec} {es : List Nat} {Gs : Nat → Hp} {Ns : Nat → Nat}
structure AnyInv (cx : Cx) (B : Nat) (ops : Array Oper) (base : Nat) (tm0 : T Value) (nt : Nat) (rc : Nat → Rec) (es : List Nat) (Gs : Nat → Hp) (Ns : Nat → Nat) (E0 : Env) (w0 : World) (S : Nat → Prop) (E : Env) (a : Act) (w : World) : Prop where
 val : ∀ t, VJ E (tmS ops rc tm0 S t) (a.tmps.getD t undef)
 size : a.tmps.size = nt
 defers : a.defers = []
 st : ∃ s K, s ≤ es.length ∧ (∀ s' e, es[s']? = some e → (S e ↔ s' < s)) ∧ Is K (Gs s) (pend rc base ops.size S) ∧ HR B cx.lo E K w ∧ (∀ i, Ns s ≤ i → E i = none)
 free : ∀ j, j < ops.size → ¬ S j → E (base + j) = none
 glob : Globs cx E
 le : E0.le E
 keep : ∀ i, i < base → E i = E0 i
 below : Below B w0 w
 closed : ∀ i o, ops[i]? = some o → S i → ∀ e ∈ o.after.toList, Region.binds .any e = true → S e.on
theorem reads_agree (hk : DrOk ops) {S : Nat → Prop} (hS : ∀ i o, ops[i]? = some o → S i → ∀ e ∈ o.after.toList, Region.binds .any e = true → S e.on) {i : Nat} {o : Oper} (ho : ops[i]? = some o) (hi : ¬ S i)
  (hp : ∀ j, Pr ops i j → S j) {t : Tmp} (ht : t ∈ readsOf ops o) : tmS ops rc tm0 S t = tmS ops rc tm0 (· < i) t := by
 refine tmS_congr (fun p q hq hd => ⟨?_, fun _ => rfl⟩)
 by_cases e : p = i
 ·subst e
  exact ⟨fun h => absurd h hi, fun h => absurd h (Nat.lt_irrefl _)⟩
 ·rcases hk.read p i q o t hq ho e hd ht with h | h
  ·exact ⟨fun _ => preds_lt hk i p h, fun _ => hp p h⟩
  ·refine ⟨fun hs => absurd (preds_closed hk hS p i hs h) hi, fun hlt => ?_⟩
   have := preds_lt hk p i h
   omega
theorem es_inc (hk : DrOk ops) (h : DrInv cx C ops base tm0 H0 n D rc es Gs Ns) : ∀ (d s : Nat) (e e' : Nat), es[s]? = some e → es[s + 1 + d]? = some e' → e < e'
 | 0, s, e, e', h1, h2 => preds_lt hk e' e (h.order s e e' h1 h2)
 | d + 1, s, e, e', h1, h2 => by
  cases hm : es[s + 1 + d]? with
  | none =>
   have := List.getElem?_eq_none_iff.1 hm
   have := (List.getElem?_eq_some_iff.1 h2).1
   omega
  | some m =>
   have q1 := es_inc hk h d s e m h1 hm
   have q2 := preds_lt hk e' m (h.order (s + 1 + d) m e' hm h2)
   omega
theorem es_inj (hk : DrOk ops) (h : DrInv cx C ops base tm0 H0 n D rc es Gs Ns) {s s' e : Nat} (h1 : es[s]? = some e) (h2 : es[s']? = some e) : s = s' := by
 rcases Nat.lt_trichotomy s s' with q | q | q
 ·have := es_inc hk h (s' - s - 1) s e e h1 (by rw [show s + 1 + (s' - s - 1) = s' by omega]; exact h2); omega
 ·exact q
 ·have := es_inc hk h (s - s' - 1) s' e e h2 (by rw [show s' + 1 + (s - s' - 1) = s by omega]; exact h1); omega
theorem put_defers {a : Act} {d : Option Tmp} {v : Value} (h : a.defers = []) : (a.put d v).defers = [] := by cases d <;> simp [Act.put, h]
theorem put_size {a : Act} {d : Option Tmp} {v : Value} (h : a.tmps.size = nt) : (a.put d v).tmps.size = nt := by cases d <;> simp [Act.put, h]
theorem put_val (hk : DrOk ops) {S : Nat → Prop} {E : Env} {a : Act} {i : Nat} {o : Oper} {v' : Value} (ho : ops[i]? = some o) (hd : ∀ d, o.dst = some d → d < nt) (hsz : a.tmps.size = nt)
  (h : ∀ t, VJ E (tmS ops rc tm0 S t) (a.tmps.getD t undef)) (hv : VR E (rc i).val v') : ∀ t, VJ E (tmS ops rc tm0 (fun j => S j ∨ j = i) t) ((a.put o.dst v').tmps.getD t undef) := by
 intro t
 by_cases e : o.dst = some t
 ·have : tmS ops rc tm0 (fun j => S j ∨ j = i) t = (rc i).val := by
   unfold tmS
   rw [writer_some hk ho e]
   simp only
   rw [if_pos (Or.inr rfl)]
  rw [this]
  have hg : (a.put o.dst v').tmps.getD t undef = v' := by
   rw [e]
   have ht : t < a.tmps.size := by rw [hsz]; exact hd t e
   simp [Act.put, Array.getD, ht]
  rw [hg]
  exact VJ.of hv
 ·have h1 : tmS ops rc tm0 (fun j => S j ∨ j = i) t = tmS ops rc tm0 S t := by
   refine tmS_congr (fun p q hp hq => ⟨⟨fun z => z.resolve_right ?_, .inl⟩, fun _ => rfl⟩)
   intro z
   subst z
   rw [ho] at hp; cases hp
   exact e hq
  have h2 : (a.put o.dst v').tmps.getD t undef = a.tmps.getD t undef := by
   cases hdd : o.dst with
   | none => rfl
   | some d =>
    have hne : d ≠ t := by intro z; subst z; exact e hdd
    simp only [Act.put]
    rw [Array.getD_eq_getD_getElem?, Array.getD_eq_getD_getElem?, Array.getElem?_setIfInBounds, if_neg hne]
  rw [h1, h2]
  exact h t
theorem pend_add {S : Nat → Prop} {i : Nat} (hr : ∀ v ob, rc i ≠ .alloc v ob) (idx : Nat) : pend rc base ops.size S idx = pend rc base ops.size (fun j => S j ∨ j = i) idx := by
 unfold pend
 by_cases e : idx - base = i
 ·subst e
  cases h : rc (idx - base) with
  | alloc v ob => exact absurd h (hr v ob)
  | _ => simp only [ite_self]
 ·by_cases hc : base ≤ idx ∧ idx < base + ops.size ∧ S (idx - base)
  ·rw [if_pos hc, if_pos ⟨hc.1, hc.2.1, .inl hc.2.2⟩]
  ·rw [if_neg hc, if_neg (fun q => hc ⟨q.1, q.2.1, q.2.2.resolve_right e⟩)]
theorem pend_none {S : Nat → Prop} {i : Nat} (hi : ¬ S i) : pend rc base ops.size S (base + i) = none := by
 unfold pend
 rw [if_neg (fun q => by have := q.2.2; rw [Nat.add_sub_cancel_left] at this; exact hi this)]
theorem HR.ext {B lo : Nat} {E : Env} {H H' : Hp} {w : World} (h : HR B lo E H w) (e : ∀ i, H'.get i = H.get i) : HR B lo E H' w where
 dat b o p := h.dat b o (by rw [← e]; exact p)
 root b o p q r := by rw [e]; exact h.root b o (by rw [← e]; exact p) q r
 apart b1 b2 o1 o2 pl1 pl2 p q := h.apart b1 b2 o1 o2 pl1 pl2 (by rw [← e]; exact p) (by rw [← e]; exact q)
 bound := h.bound
 new := h.new
 old := h.old
 base := h.base
theorem Is.over {M K G : Hp} {i : Nat} {S : Nat → Prop} (hM : Is M G (pend rc base ops.size (Pr ops i))) (hK : Is K G (pend rc base ops.size S)) (hp : ∀ j, Pr ops i j → S j) : Ov M K (pend rc base ops.size S) := by
 intro idx
 rw [hM idx, hK idx]
 cases hg : G.get idx with
 | some x => rfl
 | none =>
  simp only [Option.none_or]
  cases hq : pend rc base ops.size (Pr ops i) idx with
  | none => rfl
  | some y =>
   simp only [Option.some_or]
   unfold pend at hq ⊢
   split at hq
   ·rename_i hc
    rw [if_pos ⟨hc.1, hc.2.1, hp _ hc.2.2⟩]
    exact hq
   ·cases hq
theorem any_step (hc : CxOk cx) (hK : Sound cx C) (hM : MonoC C) (hk : DrOk ops) (h : DrInv cx C ops base tm0 H0 ops.size D rc es Gs Ns) (hdst : ∀ (i : Nat) (o : Oper), ops[i]? = some o → ∀ d, o.dst = some d → d < nt)
  (hlo : cx.lo ≤ base) {B : Nat} {E0 E : Env} {w0 w : World} (hW : cx.Wp B w0) {S : Nat → Prop} {a : Act} (I : AnyInv cx B ops base tm0 nt rc es Gs Ns E0 w0 S E a w) {i : Nat} {o : Oper} (ho : ops[i]? = some o) (hi : ¬ S i)
  (hr : ∀ e ∈ o.after.toList, Region.binds .any e = true → S e.on) {Q : Exit → Act → World → Prop} {K : Act → World → Prop}
  (hn : ∀ E' a' w', AnyInv cx B ops base tm0 nt rc es Gs Ns E0 w0 (fun j => S j ∨ j = i) E' a' w' → K a' w') : wpOp cx.P ops Q i K a w := by
 have hin : i < ops.size := (Array.getElem?_eq_some_iff.1 ho).1
 have hp : ∀ j, Pr ops i j → S j := by
  intro j hj
  obtain ⟨e, q1, q2, q3⟩ := preds_spec ho hj
  have he := hr e q1 q2
  rcases q3 with q3 | q3
  ·rw [q3]; exact he
  ·exact preds_closed hk I.closed e.on j he q3
 have hclosed : ∀ k p, ops[k]? = some p → (S k ∨ k = i) → ∀ e ∈ p.after.toList, Region.binds .any e = true → (S e.on ∨ e.on = i) := by
  intro k p hkp hs e q1 q2
  rcases hs with hs | rfl
  ·exact .inl (I.closed k p hkp hs e q1 q2)
  ·rw [ho] at hkp; cases hkp
   exact .inl (hr e q1 q2)
 obtain ⟨tm, htm, hf⟩ := h.fact i o hin ho
 have hreads : ∀ d ∈ readsOf ops o, VJ E (St.eval tm (.tmp d)) (a.tmps.getD d undef) := by
  intro d hd
  rw [htm d, ← reads_agree hk I.closed ho hi hp hd]
  exact I.val d
 have hrho : constsOk cx tm o = true → ∀ x ∈ o.op.operands.toList, VR E (St.eval tm x) (a.eval x) := by
  intro hco x hx
  have hall := List.all_eq_true.1 hco x hx
  rw [Bool.and_eq_true] at hall
  have hox : operandOk cx x = true := hall.1
  cases x with
  | tmp t =>
   refine hreads t ?_ (liveOp_tmp.1 hall.2)
   unfold readsOf
   refine List.mem_append_left _ (List.mem_filterMap.2 ⟨.tmp t, hx, rfl⟩)
  | const v => exact VR.of_shut E hox
  | global g =>
   obtain ⟨pl, e, hb, hs⟩ := I.glob g (Nat.le_of_ble_eq_true hox)
   have := VR.ptr (E := E) g 0 pl e
   rw [hb, hs] at this
   exact this
  | func f => exact .shut 2 _ rfl
 have hw := fun hgd => wantedT_eq' o ops hgd hreads
 obtain ⟨s, Kh, hs, hes, hIs, hHR, hnone⟩ := I.st
 have hEi : E (base + i) = none := I.free i hin hi
 have hKi : Kh.get (base + i) = none := by
  cases hg : Kh.get (base + i) with
  | none => rfl
  | some x => obtain ⟨pl, q, _⟩ := hHR.dat _ _ hg; rw [hEi] at q; cases q
 unfold wpOp
 rw [ho]
 simp only
 have plain : ∀ (v : Value) (K1 : Hp), (∀ v ob, rc i = .alloc v ob → K1 = Kh.set (base + i) ob) → ((∀ v ob, rc i ≠ .alloc v ob) → K1 = Kh) → (∀ v, rc i ≠ .eff v) → (rc i).val = v → constsOk cx tm o = true → (match cat o.op with | .effect => False | _ => True) →
   evOp cx (St.eval tm) o (base + i) Kh = some (.val v, K1) → o.wp cx.P a w K Q := by
  intro v K1 hK1 hK2 hne hv hco hcat he
  obtain ⟨E', w', x, hrun, st⟩ := evOp_sim hc hHR hEi hKi (fun q => by cases hcc : cat o.op <;> simp [hcc] at q hcat) (by omega) (hrho hco) he
  unfold Oper.wp
  rw [hrun]
  cases x with
  | value v' =>
   simp only [Oper.upon_value]
   refine hn E' _ w' ⟨put_val hk ho (hdst i o ho) I.size (fun t => (I.val t).mono st.le) (by rw [hv]; exact st.nr), put_size I.size, put_defers I.defers, ⟨s, K1, hs, fun s' e hse => ?_, ?_, st.hr, fun j hj => ?_⟩, fun j hj hnj => ?_, I.glob.mono st.le, Env.le_trans I.le st.le, fun j hj => ?_, I.below.trans st.below, hclosed⟩
   ·have hei : e ≠ i := fun q => h.notin i hin hne (by rw [← q]; exact List.mem_of_getElem? hse)
    rw [← hes s' e hse]
    exact ⟨fun z => z.resolve_right hei, .inl⟩
   ·cases hrc : rc i with
    | alloc v0 ob =>
     rw [hK1 v0 ob hrc]
     intro idx
     rw [T.get_set]
     by_cases e : idx = base + i
     ·subst e
      rw [if_pos rfl]
      have hg := hIs (base + i)
      rw [hKi, pend_none hi] at hg
      have hgn : (Gs s).get (base + i) = none := by
       cases hgg : (Gs s).get (base + i) with
       | none => rfl
       | some y => rw [hgg] at hg; cases hg
      rw [hgn]
      unfold pend
      rw [if_pos ⟨Nat.le_add_right _ _, by omega, .inr (by omega)⟩, Nat.add_sub_cancel_left, hrc]
      rfl
     ·rw [if_neg e, hIs idx]
      congr 1
      unfold pend
      by_cases hcc : base ≤ idx ∧ idx < base + ops.size ∧ S (idx - base)
      ·rw [if_pos hcc, if_pos ⟨hcc.1, hcc.2.1, .inl hcc.2.2⟩]
      ·rw [if_neg hcc, if_neg (fun q => hcc ⟨q.1, q.2.1, q.2.2.resolve_right (by have := q.1; omega)⟩)]
    | _ =>
     rw [hK2 (fun v ob => by rw [hrc]; intro q; cases q)]
     exact hIs.congr (fun idx => pend_add (fun v ob => by rw [hrc]; intro q; cases q) idx)
   ·have hge : base + ops.size ≤ Ns s := by
     have up : ∀ m, m ≤ es.length → base + ops.size ≤ Ns m := by
      intro m
      induction m with
      | zero => intro _; rw [h.n0]; exact Nat.le_refl _
      | succ m ih => intro hm; exact Nat.le_trans (ih (by omega)) (h.up m (by omega)).1
     exact up s hs
    rw [st.off j (by omega)]
    exact hnone j hj
   ·rw [st.off (base + j) (fun q => hnj (.inr (by omega)))]
    exact I.free j hj (fun q => hnj (.inl q))
   ·rw [st.off j (by omega)]
    exact I.keep j hj
  | _ => exact st.nr.elim
 unfold Fact at hf
 cases hrc : rc i with
 | unw =>
  rw [hrc] at hf
  simp only at hf
  obtain ⟨hf0, hf⟩ := hf
  rw [hw hf0] at hf
  rw [if_neg (by rw [hf]; simp)]
  refine hn E _ w ⟨put_val hk ho (hdst i o ho) I.size I.val (by rw [hrc]; exact VR.undef E), put_size I.size, put_defers I.defers, ⟨s, Kh, hs, fun s' e hse => ?_, hIs.congr (fun idx => pend_add (fun v ob => by rw [hrc]; intro q; cases q) idx), hHR, hnone⟩, fun j hj hnj => I.free j hj (fun q => hnj (.inl q)), I.glob, I.le, I.keep, I.below, hclosed⟩
  have hei : e ≠ i := fun q => h.notin i hin (fun v => by rw [hrc]; intro q; cases q) (by rw [← q]; exact List.mem_of_getElem? hse)
  rw [← hes s' e hse]
  exact ⟨fun z => z.resolve_right hei, .inl⟩
 | pure v =>
  rw [hrc] at hf
  obtain ⟨⟨f0, f1⟩, f2, f3, H1, f4⟩ := hf
  rw [hw f0] at f1
  rw [if_pos f1]
  left
  obtain ⟨K1, hK1⟩ := pure_any f3 f4 Kh
  have := still_same (.inl f3) hK1
  subst this
  exact plain v _ (fun v ob q => by rw [hrc] at q; cases q) (fun _ => rfl) (fun v => by rw [hrc]; intro q; cases q) (by rw [hrc]; rfl) f2 (by rw [f3]; trivial) hK1
 | alloc v ob =>
  rw [hrc] at hf
  obtain ⟨⟨f0, f1⟩, f2, f3, H1, f4, f5⟩ := hf
  rw [hw f0] at f1
  rw [if_pos f1]
  left
  refine plain v _ (fun v2 ob2 q => by rw [hrc] at q; cases q; rfl) (fun q => absurd hrc (q v ob)) (fun v => by rw [hrc]; intro q; cases q) (by rw [hrc]; rfl) f2 (by rw [f3]; trivial) (alloc_shape f3 f4 f5 Kh)
 | load v =>
  rw [hrc] at hf
  obtain ⟨⟨f0, f1⟩, f2, f3, f4⟩ := hf
  rw [hw f0] at f1
  rw [if_pos f1]
  left
  obtain ⟨M, H1, m1, m2⟩ := f4 s hs (fun s' e hse => ⟨fun q hpe => hi (preds_closed hk I.closed e i ((hes s' e hse).2 q) hpe), fun q hpe => by
   have := (hes s' e hse).1 (hp e hpe); omega⟩)
  obtain ⟨_, K1, k2, _⟩ := evOp_mono (St.eval tm) o (base + i) M (.val v) H1 Kh _ m2 (m1.over hIs hp)
  have := still_same (.inr f3) k2
  subst this
  exact plain v _ (fun v ob q => by rw [hrc] at q; cases q) (fun _ => rfl) (fun v => by rw [hrc]; intro q; cases q) (by rw [hrc]; rfl) f2 (by rw [f3]; trivial) k2
 | eff v =>
  rw [hrc] at hf
  obtain ⟨⟨f0, f1⟩, f2, f3, s1, f4, M, m1, m2⟩ := hf
  rw [hw f0] at f1
  rw [if_pos f1]
  left
  have hs1l : s1 < es.length := (List.getElem?_eq_some_iff.1 f4).1
  have hss : s1 = s := by
   have h1 : ¬ s1 < s := fun q => hi ((hes s1 i f4).2 q)
   rcases Nat.lt_or_ge s s1 with q | q
   ·obtain ⟨m, rfl⟩ : ∃ m, s1 = m + 1 := ⟨s1 - 1, by omega⟩
    cases hm : es[m]? with
    | none => have := List.getElem?_eq_none_iff.1 hm; omega
    | some e =>
     have := (hes m e hm).1 (hp e (h.order m e i hm f4))
     omega
   ·omega
  subst hss
  have up : ∀ m, m ≤ es.length → base + ops.size ≤ Ns m := by
   intro m
   induction m with
   | zero => intro _; rw [h.n0]; exact Nat.le_refl _
   | succ m ih => intro hm; exact Nat.le_trans (ih (by omega)) (h.up m (by omega)).1
  have hge := up s1 hs
  have hX : ∀ j, Ns s1 ≤ j → pend rc base ops.size S j = none := by
   intro j hj
   unfold pend
   rw [if_neg (fun q => by have := q.2.1; omega)]
  obtain ⟨u1, u2, G', u3, u4⟩ := evFull_mono hM m2 (m1.over hIs hp) hX
  have hfr : Fresh cx E Kh (Ns s1) := ⟨hnone, fun j hj => by
   cases hg : Kh.get j with
   | none => rfl
   | some x => obtain ⟨pl, q, _⟩ := hHR.dat _ _ hg; rw [hnone j hj] at q; (cases q), by omega⟩
  refine evFull_sim hc hK (hc.wp _ _ _ I.below hW) (hrho f2) hHR hfr I.glob u3 (fun v' E' w' Dn => ?_)
  refine hn E' _ w' ⟨put_val hk ho (hdst i o ho) I.size (fun t => (I.val t).mono Dn.le) (by rw [hrc]; exact Dn.val), put_size I.size, put_defers I.defers, ⟨s1 + 1, G', hs1l, fun s' e hse => ?_, ?_, Dn.hr, fun j hj => Dn.fresh.env j hj⟩, fun j hj hnj => ?_, I.glob.mono Dn.le, Env.le_trans I.le Dn.le, fun j hj => ?_, I.below.trans Dn.below, hclosed⟩
  ·by_cases hei : e = i
   ·subst hei
    have := es_inj hk h hse f4
    subst this
    exact ⟨fun _ => Nat.lt_succ_self _, fun _ => .inr rfl⟩
   ·have hne : s' ≠ s1 := fun q => by subst q; rw [f4] at hse; cases hse; exact hei rfl
    have := hes s' e hse
    exact ⟨fun z => by have := this.1 (z.resolve_right hei); omega, fun z => .inl (this.2 (by omega))⟩
  ·exact Is.congr u4 (fun idx => pend_add (fun v ob => by rw [hrc]; intro q; cases q) idx)
  ·rw [Dn.keep (base + j) (by omega)]
   exact I.free j hj (fun q => hnj (.inl q))
  ·rw [Dn.keep j (by omega)]
   exact I.keep j hj
theorem ready_nil {listed : Array Bool} (hk : DrOk ops) (hs : listed.size = ops.size) (h : Region.ready .any ops listed = []) : ∀ j, j < ops.size → listed.getD j false = true := by
 intro j
 induction j using Nat.strongRecOn with
 | _ j ih =>
  intro hj
  cases hl : listed.getD j false with
  | true => rfl
  | false =>
   exfalso
   have : j ∈ Region.ready .any ops listed := by
    unfold Region.ready
    rw [List.mem_filter]
    refine ⟨List.mem_range.2 hj, ?_⟩
    have hlj : listed.getD j true = false := by
     have : j < listed.size := by omega
     simp [Array.getD, this] at hl ⊢
     exact hl
    rw [hlj, Array.getElem?_eq_getElem hj]
    simp only [Bool.not_false, Option.map_some, Option.getD_some, Bool.true_and]
    rw [Array.all_eq_true']
    intro e he
    cases hb : Region.binds .any e with
    | false => rfl
    | true =>
     have hlt := hk.back j _ (Array.getElem?_eq_getElem hj) e (Array.mem_toList_iff.2 he) hb
     rw [ih e.on hlt (by omega)]
     rfl
   rw [h] at this
   cases this
theorem any_sound (hc : CxOk cx) (hK : Sound cx C) (hM : MonoC C) (hk : DrOk ops) (h : DrInv cx C ops base tm0 H0 ops.size D rc es Gs Ns) (hdst : ∀ (i : Nat) (o : Oper), ops[i]? = some o → ∀ d, o.dst = some d → d < nt)
  (hlo : cx.lo ≤ base) {B : Nat} {E0 : Env} {w0 : World} (hW : cx.Wp B w0) {Q : Exit → Act → World → Prop}
  (hQ : ∀ E a w S, (∀ j, j < ops.size → S j) → AnyInv cx B ops base tm0 nt rc es Gs Ns E0 w0 S E a w → Q .normal a w) :
  ∀ (fuel : Nat) (listed : Array Bool) (E : Env) (a : Act) (w : World), listed.size = ops.size → listed.toList.count false ≤ fuel → AnyInv cx B ops base tm0 nt rc es Gs Ns E0 w0 (fun j => listed.getD j false = true) E a w →
   wpAny cx.P .any ops Q fuel listed a w := by
 intro fuel
 have fin : ∀ (listed : Array Bool) (E : Env) (a : Act) (w : World), listed.size = ops.size → AnyInv cx B ops base tm0 nt rc es Gs Ns E0 w0 (fun j => listed.getD j false = true) E a w → Region.ready .any ops listed = [] → Q .normal a w :=
  fun listed E a w hs I hr => hQ E a w _ (ready_nil hk hs hr) I
 induction fuel with
 | zero =>
  intro listed E a w hs hcnt I
  have all : ∀ j, j < listed.size → listed.getD j true = true := by
   intro j hj
   have : ¬ false ∈ listed.toList := by
    intro q
    have := List.count_pos_iff.2 q
    omega
   simp only [Array.getD, hj, dite_true]
   cases hl : listed[j] with
   | true => exact hl
   | false => exact absurd (by rw [← hl]; exact Array.getElem_mem_toList hj) this
  have hr : Region.ready .any ops listed = [] := by
   unfold Region.ready
   rw [List.filter_eq_nil_iff]
   intro j hj
   rw [all j (by rw [hs]; exact List.mem_range.1 hj)]
   simp
  exact ⟨hr, fin listed E a w hs I hr⟩
 | succ fuel ih =>
  intro listed E a w hs hcnt I
  refine ⟨fin listed E a w hs I, fun i hi => ?_⟩
  unfold Region.ready at hi
  rw [List.mem_filter] at hi
  obtain ⟨hi1, hi2⟩ := hi
  have hin : i < ops.size := List.mem_range.1 hi1
  have hil : i < listed.size := by omega
  simp only [Bool.and_eq_true, Bool.not_eq_true'] at hi2
  obtain ⟨hi2, hi3⟩ := hi2
  have hlf : listed[i] = false := by simpa [Array.getD, hil] using hi2
  have hi2' : ¬ listed.getD i false = true := by simp [Array.getD, hil, hlf]
  rw [Array.getElem?_eq_getElem hin] at hi3
  simp only [Option.map_some, Option.getD_some] at hi3
  rw [Array.all_eq_true'] at hi3
  refine any_step hc hK hM hk h hdst hlo hW I (Array.getElem?_eq_getElem hin) hi2' (fun e he hb => ?_) (fun E' a' w' I' => ih _ E' a' w' (by simp [hs]) ?_ ?_)
  ·have := hi3 e (Array.mem_toList_iff.1 he)
   rw [hb] at this
   simpa using this
  ·rw [Array.toList_setIfInBounds, List.count_set (by simpa using hil)]
   have : listed.toList[i]'(by simpa using hil) = false := by simpa using hlf
   rw [this]
   rw [show (false == false) = true from rfl, show (true == false) = false from rfl, if_pos rfl, if_neg (by decide)]
   omega
  ·have : (fun j => (listed.setIfInBounds i true).getD j false = true) = (fun j => listed.getD j false = true ∨ j = i) := by
    funext j
    apply propext
    rw [Array.getD_eq_getD_getElem?, Array.getD_eq_getD_getElem?, Array.getElem?_setIfInBounds]
    by_cases e : i = j
    ·subst e
     simp [hil]
    ·rw [if_neg e]
     exact ⟨.inl, fun q => q.resolve_right (Ne.symm e)⟩
   rw [this]
   exact I'
end
theorem draw_any (hc : CxOk cx) (K : Caller) (hK : Sound cx K) (hM : MonoC K) (ops : Array Oper) (nt : Nat) (Q : Exit → Act → World → Prop) (B : Nat) (s s' : St) (E : Env) (a : Act) (w : World) (hs : SR cx B E nt s a w) (h : evDraw cx K ops nt s = some s')
  (hQ : ∀ E' a' w', Later cx B E s.nx w nt s' E' a' w' → Q .normal a' w') : DrOk ops ∧ wpAny cx.P .any ops Q ops.size (Array.replicate ops.size false) a { w with drawn := w.drawn + 1 } := by
 unfold evDraw at h
 simp only at h
 cases hok : drOk ops (predsGo ops.toList #[]) with
 | false => rw [hok] at h; cases h
 | true =>
  rw [hok] at h
  simp only at h
  have hk := drOk_spec hok
  refine ⟨hk, ?_⟩
  cases hd : drOps cx K ops nt (predsGo ops.toList #[]) s.nx ops.toList.zipIdx { tm := s.tm, G := s.H, nx := Nat.add s.nx ops.size, all := [], stages := [], loads := [] } with
  | none => rw [hd] at h; cases h
  | some D =>
   rw [hd] at h
   cases h
   have i0 : DrInv cx K ops s.nx s.tm s.H 0 { tm := s.tm, G := s.H, nx := Nat.add s.nx ops.size, all := [], stages := [], loads := [] } (fun _ => .unw) [] (fun _ => s.H) (fun _ => s.nx + ops.size) := by
    refine ⟨rfl, rfl, rfl, rfl, (fun e q => by cases q), (fun s e q => by simp at q), .inl ⟨rfl, rfl⟩, (fun s e e' q => by simp at q), fun G mask idx => ?_, (fun i v q => by omega), fun t => ?_, (fun s q => by simp at q), (fun i q => by omega), (fun i o q => by omega)⟩
    ·simp only [minHeap]
     unfold pend
     rw [if_neg (fun q => by have := q.2.2.2; omega)]
     simp
    ·unfold tmS
     split
     ·rfl
     ·rw [if_neg (Nat.not_lt_zero _)]
   obtain ⟨rc, es, Gs, Ns, I⟩ := drOps_inv hM hk _ 0 _ D _ _ _ _ i0 (fun j p q => by
    rw [List.getElem?_zipIdx] at q
    cases hj : ops.toList[j]? with
    | none => rw [hj] at q; cases q
    | some o =>
     rw [hj] at q
     cases q
     exact ⟨by simpa using hj, rfl⟩) hd
   simp only [List.length_zipIdx, Array.length_toList, Nat.zero_add] at I
   have hdst : ∀ (i : Nat) (o : Oper), ops[i]? = some o → ∀ d, o.dst = some d → d < nt := by
    intro i o ho
    refine drOps_dst _ _ _ hd (o, i) ?_
    rw [List.mem_zipIdx_iff_getElem?]
    simpa using ho
   have up : ∀ m, m ≤ es.length → s.nx + ops.size ≤ Ns m := by
    intro m
    induction m with
    | zero => intro _; rw [I.n0]; exact Nat.le_refl _
    | succ m ih => intro hm; exact Nat.le_trans (ih (by omega)) (I.up m (by omega)).1
   refine any_sound (B := B) (E0 := E) (w0 := w) (nt := nt) hc hK hM hk I hdst hs.fresh.lo hs.wp ?_ _ _ E _ _ (by simp) (by simp [List.count_replicate]) ?_
   ·intro E' a' w' S hall J
    obtain ⟨st, Kh, q1, q2, q3, q4, q5⟩ := J.st
    have hst : st = es.length := by
     rcases Nat.lt_or_ge st es.length with q | q
     ·have hes : es[st]? = some es[st] := List.getElem?_eq_getElem q
      have := (q2 st _ hes).1 (hall _ (I.esk _ (List.getElem_mem q)))
      omega
     ·omega
    subst hst
    rw [← I.nx] at q5
    have hge := up es.length (Nat.le_refl _)
    rw [← I.nx] at hge
    have hHR : HR B cx.lo E' (minHeap D.G D.all (2 ^ ops.size - 1)) w' := by
     refine q4.ext (fun idx => ?_)
     rw [q3 idx, I.all D.G (2 ^ ops.size - 1) idx, I.G]
     congr 1
     refine pend_congr (fun j hj => ⟨⟨fun _ => hall j hj, fun _ => ⟨?_, hj⟩⟩, fun _ => rfl⟩)
     rw [Nat.testBit_two_pow_sub_one]
     simpa using hj
    refine hQ E' a' w' ⟨⟨⟨fun t => ?_, J.size⟩, J.defers, hHR, ⟨q5, fun j hj => ?_, by have := hs.fresh.lo; show cx.lo ≤ D.nx; omega⟩, J.glob, hc.wp _ _ _ J.below hs.wp⟩, J.le, J.keep, J.below, by show s.nx ≤ D.nx; omega⟩
    ·show VJ E' (St.eval D.tm (.tmp t)) _
     rw [I.tm t]
     have : tmS ops rc s.tm (· < ops.size) t = tmS ops rc s.tm S t := tmS_congr (fun p o hp _ => by
      have hlt := (Array.getElem?_eq_some_iff.1 hp).1
      exact ⟨⟨fun _ => hall p hlt, fun _ => hlt⟩, fun _ => rfl⟩)
     rw [this]
     exact J.val t
    ·show (minHeap D.G D.all (2 ^ ops.size - 1)).get j = none
     cases hg : (minHeap D.G D.all (2 ^ ops.size - 1)).get j with
     | none => rfl
     | some x => obtain ⟨pl, q, _⟩ := hHR.dat _ _ hg; rw [q5 j hj] at q; cases q
   ·have hS : ∀ j, ¬ (Array.replicate ops.size false).getD j false = true := by
     intro j
     rw [Array.getD_eq_getD_getElem?]
     cases hq : (Array.replicate ops.size false)[j]? with
     | none => simp
     | some b =>
      rw [Array.getElem?_replicate] at hq
      split at hq
      ·cases hq; simp
      ·cases hq
    refine ⟨fun t => ?_, hs.tm.size, hs.defers, ⟨0, s.H, Nat.zero_le _, fun s' e q => ⟨fun q => absurd q (hS e), fun q => by omega⟩, ?_, hs.hr.drew, fun j hj => ?_⟩, fun j hj _ => hs.fresh.env _ (Nat.le_add_right _ _), hs.glob, Env.le_refl _, fun _ _ => rfl, (Below.refl _ _).drew, fun i o _ q => absurd q (hS i)⟩
    ·have : tmS ops rc s.tm (fun j => (Array.replicate ops.size false).getD j false = true) t = St.eval s.tm (.tmp t) := by
      unfold tmS
      split
      ·rfl
      ·rw [if_neg (hS _)]
     rw [this]
     exact hs.tm.val t
    ·intro idx
     rw [I.g0]
     unfold pend
     rw [if_neg (fun q => hS _ q.2.2)]
     simp
    ·refine hs.fresh.env j ?_
     rw [I.n0] at hj
     omega
theorem draw_sound (hc : CxOk cx) (K : Caller) (hK : Sound cx K) (hM : MonoC K) : DrawSound cx K :=
 fun ops nt Q B s s' E a w hs h hQ id => wp_region_any hc.mixed (draw_any hc K hK hM ops nt Q B s s' E a w hs h hQ).2
variable {cx : Cx}
structure IntrOk (cx : Cx) : Prop where
 sound : IntrSound cx
 mono : ∀ f g, cx.intr f = some g → MonoC (fun f' args H nx => if f' = f then g args H nx else none)
theorem ev_sound (hc : CxOk cx) (hI : IntrOk cx) (n : Nat) : Sound cx (evFunc cx n) :=
 evFunc_sound hc hI.sound (M := MonoC) (evFunc_mono hI.mono) (draw_sound hc) n
end Go.Ev
namespace Go.Ev
inductive Here {α : Type} (p : Nat → α → Prop) (b : Nat) : Option α → Prop
 | none : Here p b .none
 | some {x : α} (h : p b x) : Here p b (.some x)
inductive All {α : Type} (p : Nat → α → Prop) : Nat → Nat → T α → Prop
 | nil {a b : Nat} : All p a b .nil
 | node {a b : Nat} {v : Option α} {l r : T α} (h : Here p b v) (hl : All p (2 * a) (a + b) l) (hr : All p (2 * a) (2 * a + b) r) : All p a b (.node v l r)
theorem All.get {α : Type} {p : Nat → α → Prop} {a b : Nat} {t : T α} (h : All p a b t) : ∀ (n : Nat) (x : α), t.get n = some x → p (a * n + b) x := by
 induction h with
 | nil => intro n x q; rw [T.get_nil] at q; cases q
 | @node a b v l r h hl hr ihl ihr =>
  intro n x q
  simp only [T.get] at q
  cases h0 : Nat.beq n 0 with
  | true =>
   rw [h0] at q
   simp only at q
   have hn := Nat.eq_of_beq_eq_true h0
   subst hn
   rw [q] at h
   cases h with
   | some h => rw [Nat.mul_zero, Nat.zero_add]; exact h
  | false =>
   rw [h0] at q
   simp only at q
   have hn : n ≠ 0 := fun e => by subst e; cases h0
   cases h1 : Nat.beq (Nat.mod n 2) 1 with
   | true =>
    rw [h1] at q
    simp only at q
    have hm : n % 2 = 1 := Nat.eq_of_beq_eq_true h1
    have := ihl _ _ q
    have e : 2 * a * (n / 2) + (a + b) = a * n + b := by
     have hd : n = 2 * (n / 2) + 1 := by omega
     have : a * n = 2 * a * (n / 2) + a := by
      conv => lhs; rw [hd]
      rw [Nat.mul_add, Nat.mul_one, ← Nat.mul_assoc, Nat.mul_comm a 2]
     omega
    rw [← e]
    exact this
   | false =>
    rw [h1] at q
    simp only at q
    have hm : n % 2 ≠ 1 := fun e => by rw [show Nat.beq (Nat.mod n 2) 1 = true from by show Nat.beq (n % 2) 1 = true; rw [e]; rfl] at h1; cases h1
    have := ihr _ _ q
    have e : 2 * a * (n / 2 - 1) + (2 * a + b) = a * n + b := by
     obtain ⟨m, hm2⟩ : ∃ m, n = 2 * (m + 1) := ⟨n / 2 - 1, by omega⟩
     have hd : n / 2 - 1 = m := by omega
     rw [hd]
     have : a * n = 2 * a * m + 2 * a := by
      rw [hm2, ← Nat.mul_assoc, Nat.mul_comm a 2, Nat.mul_add, Nat.mul_one]
     omega
    have e2 : Nat.sub (Nat.div n 2) 1 = n / 2 - 1 := rfl
    rw [e2] at this
    rw [← e]
    exact this
def tall {α : Type} (f : α → Bool) : T α → Bool
 | .nil => true
 | .node v l r => (match v with | none => true | some x => f x) && tall f l && tall f r
theorem tall_get {α : Type} {f : α → Bool} : ∀ {t : T α}, tall f t = true → ∀ (n : Nat) (x : α), t.get n = some x → f x = true
 | .nil, _, n, x, q => by rw [T.get_nil] at q; cases q
 | .node v l r, h, n, x, q => by
  simp only [tall, Bool.and_eq_true] at h
  simp only [T.get] at q
  split at q
  ·rw [q] at h; exact h.1.1
  ·split at q
   ·exact tall_get h.1.2 _ _ q
   ·exact tall_get h.2 _ _ q
def zeroOk (i : TypeInfo) : Bool := match i.zero with | none => true | some z => shut z
def nameOk (f : Func) : Bool := !(f.name == "runtime.NumGoroutine")
end Go.Ev
