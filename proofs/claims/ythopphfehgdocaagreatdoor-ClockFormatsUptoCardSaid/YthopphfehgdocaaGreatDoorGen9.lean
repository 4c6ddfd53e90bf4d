import Derived.Test.YthopphfehgdocaaGreatDoorGen8
set_option linter.unusedSimpArgs false
set_option linter.unusedVariables false
namespace Go.Ev
open Go.RowKit
variable {cx : Cx}
def full {α : Type} : Nat → Nat → Nat → (Nat → Option α) → T α
 | 0, _, _, _ => .nil
 | d + 1, a, b, g => .node (g b) (full d (Nat.mul 2 a) (Nat.add a b) g) (full d (Nat.mul 2 a) (Nat.add (Nat.mul 2 a) b) g)
def upd {α : Type} : List (Nat × α) → (Nat → Option α) → Nat → Option α
 | [], g, i => g i
 | (k, v) :: r, g, i => match Nat.beq i k with
  | true => some v
  | false => upd r g i
def lst (d : Nat) (l : List (Nat × Value)) (g : Nat → Option Value) : T Value := full d 1 0 (upd l g)
theorem orc_code {hk : Hook} (hh : HookOk cx hk) {k nt n : Nat} {c : Code} {s s' : St} {p m l : List Bool} {e : AExit}
  (h1 : (evCodeO cx hk (evFuncO cx hk k) nt n c s p).map (fun r => sel m r.2.2.2) = some l)
  (h2 : (evCodeO cx hk (evFuncO cx hk k) nt n c s p).map (fun r => (r.1, r.2.1, rest m r.2.2.2)) = some (e, s', true))
  (he : (evCodeO cx hk (evFuncO cx hk k) nt n c s p).map (fun r => lefts r.2.2.2) = (evCodeO cx hk (evFuncO cx hk k) nt n c s p).map (fun r => rights r.2.2.2)) (hl : ∀ b ∈ l, b = true) : evCode cx (evFunc cx k) nt n c s = some (e, s') := by
 cases hq : evCodeO cx hk (evFuncO cx hk k) nt n c s p with
 | none => rw [hq] at h1; cases h1
 | some r =>
  obtain ⟨e1, s1, p1, rs⟩ := r
  rw [hq] at h1 h2 he
  simp only [Option.map_some, Option.some.injEq, Prod.mk.injEq] at h1 h2 he
  obtain ⟨rfl, rfl, h4⟩ := h2
  subst h1
  exact evCodeO_ok hh (evFuncO_ok hh k) _ _ _ _ _ _ _ _ _ hq (so_of (bools_of _ _ hl h4) he)
theorem loop_more {K : Caller} {nt n : Nat} {b : Code} {s s' : St} (h : evCode cx K nt n b s = some (.normal, s')) : evCode cx K nt (n + 1) (.loop b) s = evCode cx K nt n (.loop b) s' := by
 simp only [evCode, h]
variable {cx : Cx}
def KLe (K K' : Caller) : Prop := ∀ f args H nx r, K f args H nx = some r → K' f args H nx = some r
theorem evFull_le {K K' : Caller} (hK : KLe K K') {ρ : Operand → Value} {o : Oper} {H : Hp} {nx : Nat} {r : Value × Hp × Nat} (h : evFull cx K ρ o H nx = some r) : evFull cx K' ρ o H nx = some r := by
 unfold evFull at h ⊢
 cases he : evOp cx ρ o nx H with
 | none => rw [he] at h; cases h
 | some p =>
  obtain ⟨a, H1⟩ := p
  rw [he] at h
  cases a with
  | val v => exact h
  | skip => exact h
  | enter f args => exact hK _ _ _ _ _ h
theorem evOps_le {K K' : Caller} (hK : KLe K K') (ops : Array Oper) (nt : Nat) : ∀ (l : List Oper) (s s' : St), evOps cx K ops nt l s = some s' → evOps cx K' ops nt l s = some s'
 | [], s, s', h => by simpa only [evOps] using h
 | o :: rest, s, s', h => by
  simp only [evOps] at h ⊢
  cases hgd : guardOk ops s.tm o with
  | false => rw [hgd] at h; cases h
  | true =>
  rw [hgd] at h
  simp only at h ⊢
  cases hw : wantedT o ops s.tm with
  | false =>
   rw [hw] at h
   simp only at h ⊢
   cases hp : putT s.tm nt o.dst undef with
   | none => rw [hp] at h; cases h
   | some tm => rw [hp] at h; exact evOps_le hK ops nt rest _ _ h
  | true =>
   rw [hw] at h
   simp only at h ⊢
   cases hc : constsOk cx s.tm o with
   | false => rw [hc] at h; cases h
   | true =>
    rw [hc] at h
    simp only at h ⊢
    cases hf : evFull cx K (St.eval s.tm) o s.H s.nx with
    | none => rw [hf] at h; cases h
    | some r =>
     obtain ⟨v, H, nx⟩ := r
     rw [hf] at h
     rw [evFull_le hK hf]
     simp only at h ⊢
     cases hp : putT s.tm nt o.dst v with
     | none => rw [hp] at h; cases h
     | some tm => rw [hp] at h; exact evOps_le hK ops nt rest _ _ h
theorem drStep_le {K K' : Caller} (hK : KLe K K') {ops : Array Oper} {nt : Nat} {preds : Array Nat} {base j : Nat} {o : Oper} {s s' : Dr} (h : drStep cx K ops nt preds base j o s = some s') : drStep cx K' ops nt preds base j o s = some s' := by
 unfold drStep at h ⊢
 simp only at h ⊢
 cases hgd : guardOk ops s.tm o with
 | false => rw [hgd] at h; cases h
 | true =>
 rw [hgd] at h
 simp only at h ⊢
 cases hw : wantedT o ops s.tm with
 | false => rw [hw] at h; exact h
 | true =>
  rw [hw] at h
  simp only at h ⊢
  cases hc : constsOk cx s.tm o with
  | false => rw [hc] at h; cases h
  | true =>
   rw [hc] at h
   simp only at h ⊢
   cases hcat : cat o.op with
   | pure => rw [hcat] at h; exact h
   | alloc => rw [hcat] at h; exact h
   | load => rw [hcat] at h; exact h
   | effect =>
    rw [hcat] at h
    simp only at h ⊢
    cases hl : lastIn (preds.getD j 0) s.stages with
    | false => rw [hl] at h; cases h
    | true =>
     rw [hl] at h
     simp only at h ⊢
     cases hf : evFull cx K (St.eval s.tm) o (minHeap s.G s.all (preds.getD j 0)) s.nx with
     | none => rw [hf] at h; cases h
     | some r =>
      rw [hf] at h
      rw [evFull_le hK hf]
      exact h
theorem drOps_le {K K' : Caller} (hK : KLe K K') {ops : Array Oper} {nt : Nat} {preds : Array Nat} {base : Nat} : ∀ (l : List (Oper × Nat)) (s s' : Dr), drOps cx K ops nt preds base l s = some s' → drOps cx K' ops nt preds base l s = some s'
 | [], s, s', h => by simpa only [drOps] using h
 | (o, j) :: r, s, s', h => by
  simp only [drOps] at h ⊢
  cases h1 : drStep cx K ops nt preds base j o s with
  | none => rw [h1] at h; cases h
  | some s1 =>
   rw [h1] at h
   rw [drStep_le hK h1]
   exact drOps_le hK r _ _ h
theorem evDraw_le {K K' : Caller} (hK : KLe K K') {ops : Array Oper} {nt : Nat} {s s' : St} (h : evDraw cx K ops nt s = some s') : evDraw cx K' ops nt s = some s' := by
 unfold evDraw at h ⊢
 simp only at h ⊢
 cases hd : drOk ops (predsGo ops.toList #[]) with
 | false => rw [hd] at h; cases h
 | true =>
  rw [hd] at h
  simp only at h ⊢
  generalize hs0 : ({ tm := s.tm, G := s.H, nx := Nat.add s.nx ops.size, all := [], stages := [], loads := [] } : Dr) = d0 at h ⊢
  cases h1 : drOps cx K ops nt (predsGo ops.toList #[]) s.nx ops.toList.zipIdx d0 with
  | none => rw [h1] at h; cases h
  | some d =>
   rw [h1] at h
   rw [drOps_le hK _ _ _ h1]
   exact h
theorem evCode_le {K K' : Caller} (hK : KLe K K') (nt : Nat) : ∀ (n m : Nat), n ≤ m → ∀ (c : Code) (s : St) (r : AExit × St), evCode cx K nt n c s = some r → evCode cx K' nt m c s = some r
 | 0, m, _, c, s, r, h => by simp only [evCode] at h; cases h
 | n + 1, 0, hm, c, s, r, h => by omega
 | n + 1, m + 1, hm, c, s, r, h => by
  have ih := evCode_le hK nt n m (by omega)
  cases c with
  | skip => exact h
  | label k => exact h
  | region k ops d => cases d with
   | false =>
    simp only [evCode] at h ⊢
    cases h1 : evOps cx K ops nt ops.toList s with
    | none => rw [h1] at h; cases h
    | some s1 => rw [h1] at h; rw [evOps_le hK _ _ _ _ _ h1]; exact h
   | true =>
    simp only [evCode] at h ⊢
    cases h1 : evDraw cx K ops nt s with
    | none => rw [h1] at h; cases h
    | some s1 => rw [h1] at h; rw [evDraw_le hK h1]; exact h
  | seq a b =>
   simp only [evCode] at h ⊢
   cases hq : evCode cx K nt n a s with
   | none => rw [hq] at h; cases h
   | some r2 =>
    rw [hq] at h
    rw [ih _ _ _ hq]
    obtain ⟨e2, s2⟩ := r2
    cases e2 with
    | normal => exact ih _ _ _ h
    | exit k => exact h
    | ret => exact h
  | cond x a b =>
   simp only [evCode] at h ⊢
   cases ho : operandOk cx x && liveOp s.tm x with
   | false => rw [ho] at h; cases h
   | true =>
    rw [ho] at h
    simp only at h ⊢
    cases he : St.eval s.tm x with
    | bool t => rw [he] at h; exact ih _ _ _ h
    | _ => rw [he] at h; cases h
  | block id b =>
   simp only [evCode] at h ⊢
   cases hq : evCode cx K nt n b s with
   | none => rw [hq] at h; cases h
   | some r2 => rw [hq] at h; rw [ih _ _ _ hq]; exact h
  | loop b =>
   simp only [evCode] at h ⊢
   cases hq : evCode cx K nt n b s with
   | none => rw [hq] at h; cases h
   | some r2 =>
    rw [hq] at h
    rw [ih _ _ _ hq]
    obtain ⟨e2, s2⟩ := r2
    cases e2 with
    | normal => exact ih _ _ _ h
    | exit k => exact h
    | ret => exact h
  | exit k => exact h
  | ret => exact h
  | _ => simp only [evCode] at h; cases h
theorem evFunc_le : ∀ (n m : Nat), n ≤ m → KLe (evFunc cx n) (evFunc cx m)
 | 0, m, _ => fun f args H nx r h => by simp only [evFunc] at h; cases h
 | n + 1, 0, hm => by omega
 | n + 1, m + 1, hm => fun f args H nx r h => by
  have ih := evFunc_le n m (by omega)
  simp only [evFunc] at h ⊢
  cases hg : cx.intr f with
  | some g => rw [hg] at h; exact h
  | none =>
   rw [hg] at h
   simp only at h ⊢
   cases hfn : cx.body f with
   | none => rw [hfn] at h; cases h
   | some fn =>
    rw [hfn] at h
    simp only at h ⊢
    cases hc : fn.body with
    | none => rw [hc] at h; cases h
    | some c =>
     rw [hc] at h
     simp only at h ⊢
     generalize hs0 : ({ tm := T.setList (T.room (Nat.add (Nat.log2 (max args.size fn.ntmps)) 1)) 0 args.toList, H, nx } : St) = s0 at h ⊢
     cases hq : evCode cx (evFunc cx n) (max args.size fn.ntmps) n c s0 with
     | none => rw [hq] at h; cases h
     | some r2 =>
      rw [hq] at h
      rw [evCode_le ih _ n m (by omega) _ _ _ hq]
      exact h
def EvC (cx : Cx) (nt : Nat) (c : Code) (s : St) (e : AExit) (s' : St) : Prop := ∃ k n, evCode cx (evFunc cx k) nt n c s = some (e, s')
def EvF (cx : Cx) (f : FuncId) (args : Array Value) (H : Hp) (nx : Nat) (v : Value) (H' : Hp) (nx' : Nat) : Prop := ∃ n, evFunc cx n f args H nx = some (v, H', nx')
theorem EvC.up {nt : Nat} {c : Code} {s s' : St} {e : AExit} (h : EvC cx nt c s e s') : ∃ N, ∀ k n, N ≤ k → N ≤ n → evCode cx (evFunc cx k) nt n c s = some (e, s') := by
 obtain ⟨k, n, h⟩ := h
 exact ⟨max k n, fun k' n' hk hn => evCode_le (evFunc_le k k' (by omega)) nt n n' (by omega) _ _ _ h⟩
theorem EvC.seq {nt : Nat} {a b : Code} {s s1 s2 : St} {e : AExit} (h1 : EvC cx nt a s .normal s1) (h2 : EvC cx nt b s1 e s2) : EvC cx nt (.seq a b) s e s2 := by
 obtain ⟨N, h1⟩ := h1.up
 obtain ⟨M, h2⟩ := h2.up
 refine ⟨max N M, max N M + 1, ?_⟩
 simp only [evCode, h1 (max N M) (max N M) (by omega) (by omega)]
 exact h2 _ _ (by omega) (by omega)
theorem EvC.seq_out {nt : Nat} {a b : Code} {s s1 : St} {e : AExit} (h1 : EvC cx nt a s e s1) (he : e ≠ .normal) : EvC cx nt (.seq a b) s e s1 := by
 obtain ⟨N, h1⟩ := h1.up
 refine ⟨N, N + 1, ?_⟩
 simp only [evCode, h1 N N (Nat.le_refl _) (Nat.le_refl _)]
 cases e <;> first | rfl | exact absurd rfl he
theorem EvC.block_exit {nt id : Nat} {b : Code} {s s1 : St} (h1 : EvC cx nt b s (.exit id) s1) : EvC cx nt (.block id b) s .normal s1 := by
 obtain ⟨N, h1⟩ := h1.up
 refine ⟨N, N + 1, ?_⟩
 simp only [evCode, h1 N N (Nat.le_refl _) (Nat.le_refl _), if_true]
theorem EvC.loop_more {nt : Nat} {b : Code} {s s1 s2 : St} {e : AExit} (h1 : EvC cx nt b s .normal s1) (h2 : EvC cx nt (.loop b) s1 e s2) : EvC cx nt (.loop b) s e s2 := by
 obtain ⟨N, h1⟩ := h1.up
 obtain ⟨M, h2⟩ := h2.up
 refine ⟨max N M, max N M + 1, ?_⟩
 simp only [evCode, h1 (max N M) (max N M) (by omega) (by omega)]
 exact h2 _ _ (by omega) (by omega)
theorem EvC.loop_out {nt : Nat} {b : Code} {s s1 : St} {e : AExit} (h1 : EvC cx nt b s e s1) (he : e ≠ .normal) : EvC cx nt (.loop b) s e s1 := by
 obtain ⟨N, h1⟩ := h1.up
 refine ⟨N, N + 1, ?_⟩
 simp only [evCode, h1 N N (Nat.le_refl _) (Nat.le_refl _)]
 cases e <;> first | rfl | exact absurd rfl he
theorem EvF.of_code {f : FuncId} {fn : Func} {c : Code} {args : Array Value} {H : Hp} {nx : Nat} {e : AExit} {s : St} {l : List Value} (hi : cx.intr f = none) (hb : cx.body f = some fn) (hc : fn.body = some c)
  (h : EvC cx (max args.size fn.ntmps) c { tm := T.setList (T.room (Nat.add (Nat.log2 (max args.size fn.ntmps)) 1)) 0 args.toList, H, nx } e s) (he : ∀ k, e ≠ .exit k) (hl : evResults cx s.tm s.H fn.results.toList = some l) :
  EvF cx f args H nx (oneOf l) s.H s.nx := by
 obtain ⟨N, h⟩ := h.up
 refine ⟨N + 1, ?_⟩
 simp only [evFunc, hi, hb, hc, h N N (Nat.le_refl _) (Nat.le_refl _)]
 cases e with
 | exit k => exact absurd rfl (he k)
 | normal => simp only [hl]
 | ret => simp only [hl]
theorem EvF.of_code' {f : FuncId} {fn : Func} {c : Code} {args : Array Value} {H : Hp} {nx nt : Nat} {tm : T Value} {e : AExit} {s : St} {l : List Value} (hi : cx.intr f = none) (hb : cx.body f = some fn) (hc : fn.body = some c)
  (hnt : max args.size fn.ntmps = nt) (htm : T.setList (T.room (Nat.add (Nat.log2 nt) 1)) 0 args.toList = tm)
  (h : EvC cx nt c { tm, H, nx } e s) (he : ∀ k, e ≠ .exit k) (hl : evResults cx s.tm s.H fn.results.toList = some l) : EvF cx f args H nx (oneOf l) s.H s.nx := by
 subst hnt
 subst htm
 exact EvF.of_code hi hb hc h he hl
def spine : Code → List Code
 | .seq a b => spine a ++ spine b
 | c => [c]
inductive EvL (cx : Cx) (nt : Nat) : List Code → St → AExit → St → Prop
 | nil (s : St) : EvL cx nt [] s .normal s
 | step {c : Code} {l : List Code} {s s1 s2 : St} {e : AExit} (h : EvC cx nt c s .normal s1) (k : EvL cx nt l s1 e s2) : EvL cx nt (c :: l) s e s2
 | out {c : Code} {l : List Code} {s s1 : St} {e : AExit} (h : EvC cx nt c s e s1) (he : e ≠ .normal) : EvL cx nt (c :: l) s e s1
theorem EvL.cases_append {nt : Nat} : ∀ {l l' : List Code} {s : St} {e : AExit} {s' : St}, EvL cx nt (l ++ l') s e s' → (∃ s1, EvL cx nt l s .normal s1 ∧ EvL cx nt l' s1 e s') ∨ (EvL cx nt l s e s' ∧ e ≠ .normal)
 | [], l', s, e, s', h => .inl ⟨s, .nil s, h⟩
 | c :: l, l', s, e, s', h => by
  cases h with
  | step h k =>
   rcases EvL.cases_append k with ⟨s1, h1, h2⟩ | ⟨h1, h2⟩
   ·exact .inl ⟨s1, .step h h1, h2⟩
   ·exact .inr ⟨.step h h1, h2⟩
  | out h he => exact .inr ⟨.out h he, he⟩
theorem EvL.append {nt : Nat} : ∀ {l l' : List Code} {s s1 s' : St} {e : AExit}, EvL cx nt l s .normal s1 → EvL cx nt l' s1 e s' → EvL cx nt (l ++ l') s e s'
 | [], l', s, s1, s', e, h, k => by cases h; exact k
 | c :: l, l', s, s1, s', e, h, k => by
  cases h with
  | step h h1 => exact .step h (EvL.append h1 k)
  | out h he => exact absurd rfl he
theorem EvC.of_spine {nt : Nat} : ∀ (c : Code) {s : St} {e : AExit} {s' : St}, EvL cx nt (spine c) s e s' → EvC cx nt c s e s'
 | .seq a b, s, e, s', h => by
  simp only [spine] at h
  rcases EvL.cases_append h with ⟨s1, h1, h2⟩ | ⟨h1, h2⟩
  ·exact (EvC.of_spine a h1).seq (EvC.of_spine b h2)
  ·exact (EvC.of_spine a h1).seq_out h2
 | .skip, s, e, s', h | .label _, s, e, s', h | .region _ _ _, s, e, s', h | .cond _ _ _, s, e, s', h | .block _ _, s, e, s', h | .loop _, s, e, s', h | .exit _, s, e, s', h | .ret, s, e, s', h => by
  simp only [spine] at h
  cases h with
  | step h k => cases k; exact h
  | out h he => exact h
 | .rangeFunc .., s, e, s', h | .scope .., s, e, s', h | .goto .., s, e, s', h | .refuse .., s, e, s', h => by
  simp only [spine] at h
  cases h with
  | step h k => cases k; exact h
  | out h he => exact h
def unspine : List Code → Code
 | [] => .skip
 | [c] => c
 | c :: l => .seq c (unspine l)
theorem evC_seq_inv {nt : Nat} {a b : Code} {s : St} {e : AExit} {s' : St} (h : EvC cx nt (.seq a b) s e s') : (∃ s1, EvC cx nt a s .normal s1 ∧ EvC cx nt b s1 e s') ∨ (EvC cx nt a s e s' ∧ e ≠ .normal) := by
 obtain ⟨k, n, h⟩ := h
 cases n with
 | zero => simp only [evCode] at h; cases h
 | succ n =>
  simp only [evCode] at h
  cases hq : evCode cx (evFunc cx k) nt n a s with
  | none => rw [hq] at h; cases h
  | some r =>
   obtain ⟨e1, s1⟩ := r
   rw [hq] at h
   cases e1 with
   | normal => exact .inl ⟨s1, ⟨k, n, hq⟩, ⟨k, n, h⟩⟩
   | exit j => cases h; exact .inr ⟨⟨k, n, hq⟩, by simp⟩
   | ret => cases h; exact .inr ⟨⟨k, n, hq⟩, by simp⟩
theorem EvL.of_unspine {nt : Nat} : ∀ (l : List Code) {s : St} {e : AExit} {s' : St}, EvC cx nt (unspine l) s e s' → EvL cx nt l s e s'
 | [], s, e, s', h => by
  obtain ⟨k, n, h⟩ := h
  cases n with
  | zero => simp only [evCode] at h; cases h
  | succ n => simp only [unspine, evCode] at h; cases h; exact .nil s
 | [c], s, e, s', h => by
  by_cases he : e = .normal
  ·subst he; exact .step h (.nil _)
  ·exact .out h he
 | c :: d :: l, s, e, s', h => by
  rcases evC_seq_inv (show EvC cx nt (.seq c (unspine (d :: l))) s e s' from h) with ⟨s1, h1, h2⟩ | ⟨h1, h2⟩
  ·exact .step h1 (EvL.of_unspine (d :: l) h2)
  ·exact .out h1 h2
variable {cx : Cx}
def Tr (cx : Cx) (n0 nt : Nat) (c : Code) (s : St) (Q : AExit → St → Prop) : Prop :=
 ∀ (B : Nat) (E : Env) (a : Act) (w : World) (R : Exit → Act → World → Prop), SR cx B E nt s a w →
  (∀ e s' E' a' w', Q e s' → SR cx B E' nt s' a' w' → (∀ i, i < n0 → E' i = E i) → Below B w w' → R e.to a' w') → c.wp cx.P R a w
theorem evCode_nx (hI : IntrOk cx) {k n nt : Nat} {c : Code} {s s' : St} {e : AExit} (h : evCode cx (evFunc cx k) nt n c s = some (e, s')) : s.nx ≤ s'.nx :=
 (evCode_mono (evFunc_mono hI.mono k) n c s s' e h s.H (fun _ => none) (fun i => by simp) (fun _ _ => rfl)).1
variable {n0 nt : Nat}
theorem Tr.mono {c : Code} {s : St} {Q Q' : AExit → St → Prop} (h : Tr cx n0 nt c s Q) (k : ∀ e s', Q e s' → Q' e s') : Tr cx n0 nt c s Q' :=
 fun B E a w R hs hR => h B E a w R hs fun e s' E' a' w' q => hR e s' E' a' w' (k e s' q)
theorem Tr.ev (hc : CxOk cx) (hI : IntrOk cx) {c : Code} {s s' : St} {e : AExit} {Q : AExit → St → Prop} (hn : n0 ≤ s.nx) (h : EvC cx nt c s e s') (hq : Q e s') : Tr cx n0 nt c s Q := by
 obtain ⟨k, n, h⟩ := h
 intro B E a w R hs hR
 have hS := ev_sound hc hI k
 exact (evCode_sound hc hS (draw_sound hc _ hS (evFunc_mono hI.mono k)) n).1 c s s' e E a w R hs h fun E' a' w' L => hR e s' E' a' w' hq L.st (fun i hi => L.keep i (Nat.lt_of_lt_of_le hi hn)) L.below
theorem Tr.seq {x y : Code} {s : St} {Q Q1 : AExit → St → Prop} (h : Tr cx n0 nt x s Q1) (k : ∀ s1, Q1 .normal s1 → Tr cx n0 nt y s1 Q) (o : ∀ e s1, Q1 e s1 → e ≠ .normal → Q e s1) : Tr cx n0 nt (.seq x y) s Q := by
 intro B E a w R hs hR
 refine wp_seq (h B E a w _ hs fun e s1 E1 a1 w1 q h1 k1 b1 => ?_)
 cases e with
 | normal => exact k s1 q B E1 a1 w1 R h1 fun e s2 E2 a2 w2 q2 h2 k2 b2 => hR e s2 E2 a2 w2 q2 h2 (fun i hi => (k2 i hi).trans (k1 i hi)) (b1.trans b2)
 | exit id => exact hR _ s1 E1 a1 w1 (o _ _ q (by simp)) h1 k1 b1
 | ret => exact hR _ s1 E1 a1 w1 (o _ _ q (by simp)) h1 k1 b1
theorem Tr.block {id : Nat} {c : Code} {s : St} {Q Q1 : AExit → St → Prop} (h : Tr cx n0 nt c s Q1) (k : ∀ s1, Q1 (.exit id) s1 → Q .normal s1) (o : ∀ e s1, Q1 e s1 → e ≠ .exit id → Q e s1) : Tr cx n0 nt (.block id c) s Q := by
 intro B E a w R hs hR
 refine wp_block (h B E a w _ hs fun e s1 E1 a1 w1 q h1 k1 b1 => ?_)
 cases e with
 | normal => exact hR _ s1 E1 a1 w1 (o _ _ q (by simp)) h1 k1 b1
 | exit j =>
  simp only [AExit.to, Exit.inBlock]
  by_cases hj : j = id
  ·subst hj
   rw [if_pos rfl]
   exact hR .normal s1 E1 a1 w1 (k _ q) h1 k1 b1
  ·rw [if_neg hj]
   exact hR (.exit j) s1 E1 a1 w1 (o _ _ q (by simpa using hj)) h1 k1 b1
 | ret => exact hR _ s1 E1 a1 w1 (o _ _ q (by simp)) h1 k1 b1
theorem rounds_mono {P : Program} {c : Code} {Q : Exit → Act → World → Prop} : ∀ (n m : Nat), n ≤ m → ∀ a w, Code.rounds P c Q n a w → Code.rounds P c Q m a w
 | 0, _, _, _, _, h => h.elim
 | n + 1, 0, hm, _, _, _ => by omega
 | n + 1, m + 1, hm, a, w, h => by
  rw [rounds_succ] at h ⊢
  refine wp_mono h fun e a1 w1 q => ?_
  cases e with
  | normal => exact rounds_mono n m (by omega) a1 w1 q
  | _ => exact q
theorem Tr.loop {b : Code} {Q : AExit → St → Prop} (I : Nat → St → Prop)
  (h : ∀ m s, I m s → Tr cx n0 nt b s fun e s1 => match e with
   | .normal => ∃ m', m' < m ∧ I m' s1
   | e => Q e s1) {m : Nat} {s : St} (hi : I m s) : Tr cx n0 nt (.loop b) s Q := by
 have key : ∀ m s, I m s → ∀ (B : Nat) (E : Env) (a : Act) (w : World) (R : Exit → Act → World → Prop), SR cx B E nt s a w →
   (∀ e s' E' a' w', Q e s' → SR cx B E' nt s' a' w' → (∀ i, i < n0 → E' i = E i) → Below B w w' → R e.to a' w') → Code.rounds cx.P b R (m + 1) a w := by
  intro m
  induction m using Nat.strongRecOn with
  | _ m ih =>
   intro s hi B E a w R hs hR
   rw [rounds_succ]
   refine h m s hi B E a w _ hs fun e s1 E1 a1 w1 q h1 k1 b1 => ?_
   cases e with
   | normal =>
    obtain ⟨m', hm, hi'⟩ := q
    refine rounds_mono (m' + 1) m (by omega) _ _ (ih m' hm s1 hi' B E1 a1 w1 R h1 fun e s2 E2 a2 w2 q2 h2 k2 b2 => hR e s2 E2 a2 w2 q2 h2 (fun i hi => (k2 i hi).trans (k1 i hi)) (b1.trans b2))
   | exit j => exact hR _ s1 E1 a1 w1 q h1 k1 b1
   | ret => exact hR _ s1 E1 a1 w1 q h1 k1 b1
 intro B E a w R hs hR
 exact wp_loop_rounds (m + 1) (key m s hi B E a w R hs hR)
def Ren (cx : Cx) (n0 nt : Nat) (s s2 : St) : Prop := ∀ (B : Nat) (E : Env) (a : Act) (w : World), SR cx B E nt s a w → ∃ E2, SR cx B E2 nt s2 a w ∧ ∀ i, i < n0 → E2 i = E i
theorem Tr.ren {c : Code} {s s2 : St} {Q : AExit → St → Prop} (h : Ren cx n0 nt s s2) (k : Tr cx n0 nt c s2 Q) : Tr cx n0 nt c s Q := by
 intro B E a w R hs hR
 obtain ⟨E2, h2, k2⟩ := h B E a w hs
 exact k B E2 a w R h2 fun e s' E' a' w' q h' k' b' => hR e s' E' a' w' q h' (fun i hi => (k' i hi).trans (k2 i hi)) b'
theorem Tr.ren_post {c : Code} {s : St} {Q : AExit → St → Prop} (h : Tr cx n0 nt c s fun e s1 => ∃ s2, Ren cx n0 nt s1 s2 ∧ Q e s2) : Tr cx n0 nt c s Q := by
 intro B E a w R hs hR
 refine h B E a w R hs fun e s1 E1 a1 w1 ⟨s2, r, q⟩ h1 k1 b1 => ?_
 obtain ⟨E2, h2, k2⟩ := r B E1 a1 w1 h1
 exact hR e s2 E2 a1 w1 q h2 (fun i hi => (k2 i hi).trans (k1 i hi)) b1
def TrL (cx : Cx) (n0 nt : Nat) : List Code → St → (AExit → St → Prop) → Prop
 | [], s, Q => Q .normal s
 | c :: l, s, Q => Tr cx n0 nt c s fun e s1 => match e with
  | .normal => TrL cx n0 nt l s1 Q
  | e => Q e s1
theorem TrL.mono : ∀ {l : List Code} {s : St} {Q Q' : AExit → St → Prop}, TrL cx n0 nt l s Q → (∀ e s', Q e s' → Q' e s') → TrL cx n0 nt l s Q'
 | [], s, Q, Q', h, k => k _ _ h
 | c :: l, s, Q, Q', h, k => Tr.mono h fun e s1 q => by
  cases e with
  | normal => exact TrL.mono (l := l) q k
  | _ => exact k _ _ q
theorem TrL.append : ∀ {l l' : List Code} {s : St} {Q : AExit → St → Prop}, TrL cx n0 nt l s (fun e s1 => match e with
      | .normal => TrL cx n0 nt l' s1 Q
      | e => Q e s1) → TrL cx n0 nt (l ++ l') s Q
 | [], l', s, Q, h => h
 | c :: l, l', s, Q, h => Tr.mono h fun e s1 q => by
  cases e with
  | normal => exact TrL.append (l := l) q
  | exit k => exact q
  | ret => exact q
theorem Tr.of_spine : ∀ (c : Code) {s : St} {Q : AExit → St → Prop}, TrL cx n0 nt (spine c) s Q → Tr cx n0 nt c s Q
 | .seq x y, s, Q, h => by
  simp only [spine] at h
  have split : ∀ (l l' : List Code) (s : St), TrL cx n0 nt (l ++ l') s Q → TrL cx n0 nt l s (fun e s1 => match e with
    | .normal => TrL cx n0 nt l' s1 Q
    | e => Q e s1) := by
   intro l
   induction l with
   | nil => intro l' s h; exact h
   | cons c l ih => intro l' s h; exact Tr.mono h fun e s1 q => by
                     cases e with
                     | normal => exact ih l' s1 q
                     | exit k => exact q
                     | ret => exact q
  refine Tr.seq (Tr.of_spine x (split _ _ _ h)) (fun s1 q => Tr.of_spine y q) (fun e s1 q ne => ?_)
  cases e with
  | normal => exact absurd rfl ne
  | exit k => exact q
  | ret => exact q
 | .skip, s, Q, h => Tr.mono h fun e s1 q => by cases e <;> exact q
 | .label _, s, Q, h => Tr.mono h fun e s1 q => by cases e <;> exact q
 | .region _ _ _, s, Q, h => Tr.mono h fun e s1 q => by cases e <;> exact q
 | .cond _ _ _, s, Q, h => Tr.mono h fun e s1 q => by cases e <;> exact q
 | .block _ _, s, Q, h => Tr.mono h fun e s1 q => by cases e <;> exact q
 | .loop _, s, Q, h => Tr.mono h fun e s1 q => by cases e <;> exact q
 | .exit _, s, Q, h => Tr.mono h fun e s1 q => by cases e <;> exact q
 | .ret, s, Q, h => Tr.mono h fun e s1 q => by cases e <;> exact q
 | .rangeFunc _ _ _ _, s, Q, h => Tr.mono h fun e s1 q => by cases e <;> exact q
 | .scope _, s, Q, h => Tr.mono h fun e s1 q => by cases e <;> exact q
 | .goto _, s, Q, h => Tr.mono h fun e s1 q => by cases e <;> exact q
 | .refuse _, s, Q, h => Tr.mono h fun e s1 q => by cases e <;> exact q
theorem EvC.nx (hI : IntrOk cx) {c : Code} {s s' : St} {e : AExit} (h : EvC cx nt c s e s') : s.nx ≤ s'.nx := by
 obtain ⟨k, n, h⟩ := h
 exact evCode_nx hI h
theorem TrL.of_evl (hc : CxOk cx) (hI : IntrOk cx) {l : List Code} {s s' : St} {e : AExit} {Q : AExit → St → Prop} (h : EvL cx nt l s e s') : n0 ≤ s.nx → Q e s' → TrL cx n0 nt l s Q := by
 induction h with
 | nil s => intro _ q; exact q
 | step h k ih => intro hn q; exact Tr.ev hc hI hn h (ih (Nat.le_trans hn (h.nx hI)) q)
 | out h he =>
  intro hn q
  refine Tr.ev hc hI hn h ?_
  rename_i e2
  cases e2 with
  | normal => exact absurd rfl he
  | exit k => exact q
  | ret => exact q
def entry (fn : Func) (args : Array Value) (H : Hp) (nx : Nat) : St := { tm := T.setList (T.room (Nat.add (Nat.log2 (max args.size fn.ntmps)) 1)) 0 args.toList, H, nx }
theorem entry_rel {B : Nat} {E : Env} {H : Hp} {nx : Nat} {w : World} {fn : Func} {args args' : Array Value} (hW : cx.Wp B w) (hr : HR B cx.lo E H w) (hf : Fresh cx E H nx) (hg : Globs cx E) (har : AR E args args') :
  SR cx B E (max args.size fn.ntmps) (entry fn args H nx) { tmps := args' ++ Array.replicate (fn.ntmps - args'.size) undef, defers := [] } w := by
 refine ⟨⟨fun t => ?_, by simp [har.1]; omega⟩, rfl, hr, hf, hg, hW⟩
 simp only [entry, St.eval]
 rw [T.get_setList, Array.getD_eq_getD_getElem?]
 by_cases ht : t < args.size
 ·rw [if_pos ⟨Nat.zero_le _, by simpa using ht⟩, Array.getElem?_append_left (by rw [← har.1]; exact ht)]
  have h1 : t < args'.size := by rw [← har.1]; exact ht
  simp only [Nat.sub_zero, Array.getElem?_toList, Array.getElem?_eq_getElem ht, Array.getElem?_eq_getElem h1, Option.getD_some]
  exact VJ.of <| har.2 t _ _ (Array.getElem?_eq_getElem ht) (Array.getElem?_eq_getElem h1)
 ·have ht' : args.toList.length ≤ t := by simpa using Nat.le_of_not_lt ht
  have ht2 : args'.size ≤ t := by rw [← har.1]; exact Nat.le_of_not_lt ht
  rw [if_neg (fun q => Nat.lt_irrefl _ (Nat.lt_of_lt_of_le q.2 (by rw [Nat.zero_add]; exact ht'))), T.get_room]
  simp only
  have hund : ((args' ++ Array.replicate (fn.ntmps - args'.size) undef)[t]?).getD undef = undef := by
   rw [Array.getElem?_append_right ht2]
   cases hq : (Array.replicate (fn.ntmps - args'.size) undef)[t - args'.size]? with
   | none => rfl
   | some x =>
    rw [Array.getElem?_replicate] at hq
    split at hq
    ·cases hq; rfl
    ·cases hq
  rw [hund]
  exact VJ.of (VR.undef E)
theorem Tr.calls (hc : CxOk cx) {f : FuncId} {fn : Func} {c : Code} {args args' : Array Value} {H : Hp} {nx B : Nat} {E : Env} {w : World} {R : Value → Hp → Nat → Prop} (hb : cx.body f = some fn) (hbd : fn.body = some c)
  (hW : cx.Wp B w) (hr : HR B cx.lo E H w) (hf : Fresh cx E H nx) (hg : Globs cx E) (har : AR E args args')
  (h : Tr cx n0 (max args.size fn.ntmps) c (entry fn args H nx) fun e s => (match e with | .exit _ => False | _ => True) ∧ ∃ l, evResults cx s.tm s.H fn.results.toList = some l ∧ R (oneOf l) s.H s.nx) :
  Calls cx.P f args' w fun e w' => ∃ v v' H' nx' E', e = .returned v' ∧ R v H' nx' ∧ VR E' v v' ∧ HR B cx.lo E' H' w' ∧ Fresh cx E' H' nx' ∧ (∀ i, i < n0 → E' i = E i) ∧ Below B w w' := by
 have hfn := hc.body _ _ hb
 refine calls_of_wp hfn hbd ?_
 refine h B E _ w _ (entry_rel hW hr hf hg har) fun e s E' a' w' q hs k b => ?_
 obtain ⟨q1, l, q2, q3⟩ := q
 have fin : a'.defers = [] ∧ ∃ v', (results fn a'.tmps).run cx.P w' = .ok v' w' ∧ ∃ v v'' H' nx' E', Ending.returned v' = .returned v'' ∧ R v H' nx' ∧ VR E' v v'' ∧ HR B cx.lo E' H' w' ∧ Fresh cx E' H' nx' ∧ (∀ i, i < n0 → E' i = E i) ∧ Below B w w' := by
  obtain ⟨vs', r1, r2⟩ := evResults_sound hc hs.tm hs.hr _ _ q2
  refine ⟨hs.defers, _, ?_, _, _, s.H, s.nx, E', rfl, q3, oneOf_rel r1, hs.hr, hs.fresh, k, b⟩
  unfold results
  rw [Array.mapM_eq_mapM_toList]
  rw [Sem.run_bind, Sem.run_map]
  have step : ∀ r : Result (List Value), r = .ok vs' w' → ((r.andThen fun a w' => Result.ok a.toArray w').andThen fun a w' => Sem.run cx.P (pure (if h : a.size = 1 then a[0] else Value.tuple a)) w') = Result.ok (if h : vs'.toArray.size = 1 then vs'.toArray[0] else Value.tuple vs'.toArray) w' := by
   intro r hr
   rw [hr]
   rfl
  exact step _ r2
 cases e with
 | exit id => exact q1.elim
 | normal => exact fin
 | ret => exact fin
variable {cx : Cx}
def jV : Value := .chan (some 0)
def rn (r : Nat → Nat) : Nat → Value → Value
 | 0, _ => jV
 | d + 1, v => match v with
  | .pointer (some ⟨b, o, none⟩) => .pointer (some ⟨r b, o, none⟩)
  | .slice (some ⟨b, o, none⟩) l c => .slice (some ⟨r b, o, none⟩) l c
  | .map (some b) => .map (some (r b))
  | .iface t v => .iface t (rn r d v)
  | .func f a b => .func f (a.map (rn r d)) (b.map (rn r d))
  | .agg a => .agg (a.map (rn r d))
  | .tuple a => .tuple (a.map (rn r d))
  | v => v
theorem VR.not_j {E : Env} {v' : Value} (h : VR E jV v') : False := by
 cases h with
 | shut d _ h => cases d <;> simp [closed, jV] at h
theorem VR.rn {E : Env} {r : Nat → Nat} : ∀ (d : Nat) {v v' : Value}, VR E (rn r d v) v' → VR (fun i => E (r i)) v v'
 | 0, v, v', h => h.not_j.elim
 | d + 1, v, v', h => by
  have ih := fun {v v' : Value} => VR.rn (E := E) (r := r) d (v := v) (v' := v')
  have arr : ∀ a a' : Array Value, AR E (a.map (Go.Ev.rn r d)) a' → AR (fun i => E (r i)) a a' := fun a a' k =>
   ⟨by rw [← k.1, Array.size_map], fun i x x' p q => ih (k.2 i _ _ (by rw [Array.getElem?_map, p]; rfl) q)⟩
  unfold Go.Ev.rn at h
  split at h
  ·obtain ⟨pl, he, rfl⟩ := h.ptr_inv
   exact .ptr _ _ pl he
  ·obtain ⟨pl, c', a', he, rfl, k1, k2, k3, k4, k5⟩ := h.slice_inv
   exact .slice _ _ _ _ c' a' pl he k1 k2 k3 k4 k5
  ·obtain ⟨pl, he, rfl⟩ := h.map_inv
   exact .map _ pl he
  ·obtain ⟨u, rfl, hu⟩ := h.iface_inv
   exact .iface _ _ _ (ih hu)
  ·obtain ⟨a', b', rfl, ha, hb⟩ := h.func_inv
   have ha := arr _ _ ha
   have hb := arr _ _ hb
   exact .func _ _ _ _ _ ha.1 hb.1 ha.2 hb.2
  ·obtain ⟨a', rfl, ha⟩ := h.agg_inv
   have ha := arr _ _ ha
   exact .agg _ _ ha.1 ha.2
  ·obtain ⟨a', rfl, ha⟩ := h.tuple_inv
   have ha := arr _ _ ha
   exact .tuple _ _ ha.1 ha.2
  ·rename_i h1 h2 h3 h4 h5 h6 h7
   cases h with
   | shut k _ h => exact .shut k _ h
   | ptr b o pl _ => exact (h1 _ _ rfl).elim
   | slice b o l c c' a' pl _ _ _ _ _ _ => exact (h2 _ _ _ _ rfl).elim
   | map b pl _ => exact (h3 _ rfl).elim
   | iface t v v' _ => exact (h4 _ _ rfl).elim
   | func f a b a' b' _ _ _ _ => exact (h5 _ _ _ rfl).elim
   | agg a a' _ _ => exact (h6 _ rfl).elim
   | tuple a a' _ _ => exact (h7 _ rfl).elim
def assocN : List (Nat × Nat × AObj) → Nat → Nat → Nat
 | [], bad, _ => bad
 | x :: r, bad, i => match Nat.beq i x.1 with
  | true => x.2.1
  | false => assocN r bad i
def rOf (n0 : Nat) (L : List (Nat × Nat × AObj)) (bad i : Nat) : Nat := match Nat.blt i n0 with
 | true => i
 | false => assocN L bad i
def hpOf : List (Nat × Nat × AObj) → Hp
 | [] => .nil
 | x :: r => (hpOf r).set x.1 x.2.2
def jroom : Nat → T Value
 | 0 => .nil
 | d + 1 => .node (some jV) (jroom d) (jroom d)
def jtm (d : Nat) : List (Nat × Value) → T Value
 | [] => jroom d
 | p :: r => (jtm d r).set p.1 p.2
theorem get_jroom : ∀ (d n : Nat), n < 2 ^ d - 1 → (jroom d).get n = some jV
 | 0, n, h => by simp at h
 | d + 1, n, h => by
  have hp : 2 ^ (d + 1) = 2 * 2 ^ d := by rw [Nat.pow_succ]; omega
  simp only [jroom, T.get]
  split
  ·rfl
  ·rename_i h0
   have h0 := Nat.ne_of_beq_eq_false h0
   rcases beq_cases (Nat.mod n 2) 1 with ⟨e1, h1⟩ | ⟨e1, h1⟩
   ·rw [e1]
    refine get_jroom d _ ?_
    show n / 2 < _
    have h1 : n % 2 = 1 := h1
    omega
   ·rw [e1]
    refine get_jroom d _ ?_
    show n / 2 - 1 < _
    have h1 : n % 2 ≠ 1 := h1
    omega
def DatEq (r : Nat → Nat) : Option AData → Option AData → Prop
 | none, _ => True
 | some (.cells n2 cs2), some (.cells n1 cs1) => n2 = n1 ∧ ∀ i, i < n2 → ∃ v2, cs2.get i = some v2 ∧ cs1.get i = some (rn r 60 v2)
 | some (.map es2 c2), some (.map es1 c1) => c2 = c1 ∧ es1 = es2.map fun e => { key := rn r 60 e.key, val := rn r 60 e.val, born := e.born }
 | some (.strIter s p), some (.strIter s' p') => s = s' ∧ p = p'
 | _, _ => False
def ObjOk (r : Nat → Nat) (H1 : Hp) (b1 : Nat) (o2 : AObj) : Prop := ∃ o1, H1.get b1 = some o1 ∧ o2.elem = o1.elem ∧ o2.esz = o1.esz ∧ o2.exact = o1.exact ∧ DatEq r o2.dat o1.dat
def rootIn (H : Hp) (b : Nat) : Nat := match H.get b with
 | some o => o.root
 | none => 0
def apartB (lo : Nat) (H : Hp) : List (Nat × Nat × AObj) → Bool
 | [] => true
 | x :: r => (r.all fun y => Nat.beq x.1 y.1 || Nat.blt x.1 lo || Nat.blt y.1 lo || !(Nat.beq (rootIn H x.2.1) (rootIn H y.2.1))) && apartB lo H r
def isOne (b : Nat) : List Nat → Bool
 | [c] => Nat.beq b c
 | _ => false
def renChk (lo n0 nt d nx2 : Nat) (s : St) (l : List (Nat × Value)) (L : List (Nat × Nat × AObj)) : Bool :=
 Nat.ble n0 nx2 && (Nat.ble nt (2 ^ d - 1) && (l.all (fun p => liveOp s.tm (.tmp p.1)) && (L.all (fun x => (bif Nat.blt x.1 n0 then Nat.beq x.2.1 x.1 else true) && (Nat.blt x.1 nx2 &&
  (bif Nat.blt x.1 lo then true else Nat.ble lo x.2.1 && (Nat.beq x.2.2.root x.1 && isOne x.1 x.2.2.kin)))) && apartB lo s.H L)))
theorem get_hpOf : ∀ (L : List (Nat × Nat × AObj)) (b : Nat) (o : AObj), (hpOf L).get b = some o → ∃ b1, (b, b1, o) ∈ L ∧ ∀ bad, assocN L bad b = b1
 | [], b, o, h => by cases h
 | x :: r, b, o, h => by
  simp only [hpOf] at h
  rw [T.get_set] at h
  by_cases e : b = x.1
  ·subst e
   rw [if_pos rfl] at h
   cases h
   exact ⟨x.2.1, List.mem_cons_self, fun bad => by simp only [assocN, Nat.beq_refl]⟩
  ·rw [if_neg e] at h
   obtain ⟨b1, h1, h2⟩ := get_hpOf r b o h
   refine ⟨b1, List.mem_cons_of_mem _ h1, fun bad => ?_⟩
   have hb : Nat.beq b x.1 = false := by
    cases hq : Nat.beq b x.1 with
    | false => rfl
    | true => exact absurd (Nat.eq_of_beq_eq_true hq) e
   simp only [assocN, hb, h2]
theorem assocN_cases : ∀ (L : List (Nat × Nat × AObj)) (bad i : Nat), assocN L bad i = bad ∨ ∃ x ∈ L, x.1 = i ∧ assocN L bad i = x.2.1
 | [], bad, i => .inl rfl
 | x :: r, bad, i => by
  simp only [assocN]
  cases h : Nat.beq i x.1 with
  | true => exact .inr ⟨x, List.mem_cons_self, (Nat.eq_of_beq_eq_true h).symm, rfl⟩
  | false =>
   rcases assocN_cases r bad i with h | ⟨y, h1, h2, h3⟩
   ·exact .inl h
   ·exact .inr ⟨y, List.mem_cons_of_mem _ h1, h2, h3⟩
theorem eval_jtm {d : Nat} : ∀ (l : List (Nat × Value)) (t : Nat), t < 2 ^ d - 1 → isJ (St.eval (jtm d l) (.tmp t)) = true ∨ ∃ p ∈ l, p.1 = t ∧ St.eval (jtm d l) (.tmp t) = p.2
 | [], t, h => by
  left
  simp only [jtm, St.eval, get_jroom d t h]
  rfl
 | p :: r, t, h => by
  simp only [jtm, St.eval]
  rw [T.get_set]
  by_cases e : t = p.1
  ·rw [if_pos e]
   exact .inr ⟨p, List.mem_cons_self, e.symm, rfl⟩
  ·rw [if_neg e]
   rcases eval_jtm r t h with k | ⟨q, k1, k2, k3⟩
   ·exact .inl k
   ·exact .inr ⟨q, List.mem_cons_of_mem _ k1, k2, k3⟩
theorem apartB_spec {lo : Nat} {H : Hp} : ∀ {L : List (Nat × Nat × AObj)}, apartB lo H L = true → ∀ x ∈ L, ∀ y ∈ L, x.1 ≠ y.1 → lo ≤ x.1 → lo ≤ y.1 → rootIn H x.2.1 ≠ rootIn H y.2.1
 | [], _, x, hx, _, _, _, _, _ => by cases hx
 | z :: r, h, x, hx, y, hy, hne, h1, h2 => by
  simp only [apartB, Bool.and_eq_true] at h
  obtain ⟨k1, k2⟩ := h
  have pair : ∀ u ∈ r, z.1 ≠ u.1 → lo ≤ z.1 → lo ≤ u.1 → rootIn H z.2.1 ≠ rootIn H u.2.1 := by
   intro u hu q1 q2 q3 q4
   have := List.all_eq_true.1 k1 u hu
   have b1 : Nat.beq z.1 u.1 = false := by
    cases hq : Nat.beq z.1 u.1 with
    | false => rfl
    | true => exact absurd (Nat.eq_of_beq_eq_true hq) q1
   have b2 : Nat.blt z.1 lo = false := by
    cases hq : Nat.blt z.1 lo with
    | false => rfl
    | true => have : z.1 < lo := Nat.le_of_ble_eq_true hq; omega
   have b3 : Nat.blt u.1 lo = false := by
    cases hq : Nat.blt u.1 lo with
    | false => rfl
    | true => have : u.1 < lo := Nat.le_of_ble_eq_true hq; omega
   rw [b1, b2, b3, q4, Nat.beq_refl] at this
   cases this
  rcases List.mem_cons.1 hx with ex | hxr <;> rcases List.mem_cons.1 hy with ey | hyr
  ·subst ex; subst ey; exact absurd rfl hne
  ·subst ex; exact pair y hyr hne h1 h2
  ·subst ey; exact fun e => pair x hxr (Ne.symm hne) h2 h1 e.symm
  ·exact apartB_spec k2 x hxr y hyr hne h1 h2
theorem DatEq.live {r : Nat → Nat} {d2 d1 : Option AData} (h : DatEq r d2 d1) (k : d2 ≠ none) : d1 ≠ none := by
 cases d2 with
 | none => exact absurd rfl k
 | some d => cases d1 with
  | none => cases d <;> exact h.elim
  | some d1 => intro e; cases e
theorem DatEq.rel {lo : Nat} {r : Nat → Nat} {E : Env} {b1 b2 : Nat} {o1 o2 : AObj} {pl : Place} {w : World} (he : o2.elem = o1.elem) (hz : o2.esz = o1.esz) (hx : o2.exact = o1.exact) (h : DatEq r o2.dat o1.dat) (hlo : lo ≤ b2 → lo ≤ b1)
  (k : DatR lo E b1 o1 pl w) : DatR lo (fun i => E (r i)) b2 o2 pl w := by
 unfold DatR at k ⊢
 cases d2 : o2.dat with
 | none => trivial
 | some e2 =>
  rw [d2] at h
  cases d1 : o1.dat with
  | none => rw [d1] at h; cases e2 <;> exact h.elim
  | some e1 =>
   rw [d1] at h k
   cases e2 with
   | cells n2 cs2 => cases e1 with
    | cells n1 cs1 =>
     obtain ⟨rfl, hv⟩ := h
     refine ⟨k.there, fun q => k.soft (hlo q), k.fits, k.esz.trans hz.symm, k.exact.trans hx.symm, fun q => ?_, fun i hi => ?_⟩
     ·obtain ⟨m, p1, p2⟩ := k.shape (hlo q)
      exact ⟨m, by rw [he]; exact p1, fun e => p2 (by rw [← hx]; exact e)⟩
     ·obtain ⟨v2, q1, q2⟩ := hv i hi
      obtain ⟨v, v', p1, p2, p3⟩ := k.cell i hi
      rw [q2] at p1; cases p1
      exact ⟨v2, v', q1, p2, p3.rn⟩
    | _ => exact h.elim
   | map es2 c2 => cases e1 with
    | map es1 c1 =>
     obtain ⟨rfl, rfl⟩ := h
     obtain ⟨ces, p, q1, q2⟩ := k
     refine ⟨ces, p, by rw [q1, List.length_map], fun i e e' x y => ?_⟩
     have := q2 i _ e' (by rw [List.getElem?_map, x]; rfl) y
     exact ⟨this.key.rn, this.val.rn, this.born⟩
    | _ => exact h.elim
   | strIter s p => cases e1 with
    | strIter s' p' => obtain ⟨rfl, rfl⟩ := h; exact k
    | _ => exact h.elim
   | mapIter m since seen st => cases e1 <;> exact h.elim
theorem DatEq.ends {r : Nat → Nat} {o1 o2 : AObj} {pl : Place} (h : DatEq r o2.dat o1.dat) (k : o2.dat ≠ none) : endOf o2 pl = endOf o1 pl := by
 unfold endOf
 cases d2 : o2.dat with
 | none => exact absurd d2 k
 | some e2 => cases d1 : o1.dat with
  | none => rw [d2, d1] at h; cases e2 <;> exact h.elim
  | some e1 =>
   rw [d2, d1] at h
   cases e2 <;> cases e1 <;> first | rfl | exact h.elim | (obtain ⟨rfl, _⟩ := h; rfl)
theorem Ren.mk {n0 nt d nx2 bad : Nat} {s : St} {l : List (Nat × Value)} {L : List (Nat × Nat × AObj)} (hbd : s.nx ≤ bad) (hlo : cx.lo ≤ n0) (hng : cx.ng ≤ n0) (hchk : renChk cx.lo n0 nt d nx2 s l L = true)
  (hv : l.map (fun p => St.eval s.tm (.tmp p.1)) = l.map fun p => rn (rOf n0 L bad) 60 p.2) (ho : ∀ x ∈ L, ObjOk (rOf n0 L bad) s.H x.2.1 x.2.2) : Ren cx n0 nt s { tm := jtm d l, H := hpOf L, nx := nx2 } := by
 intro B E a w hs
 simp only [renChk, Bool.and_eq_true] at hchk
 obtain ⟨c1, c2, c3, c4, c5⟩ := hchk
 have c1 : n0 ≤ nx2 := Nat.le_of_ble_eq_true c1
 have c2 : nt ≤ 2 ^ d - 1 := Nat.le_of_ble_eq_true c2
 have hbad : E bad = none := hs.fresh.env _ hbd
 have low : ∀ i, i < n0 → rOf n0 L bad i = i := by
  intro i hi
  unfold rOf
  have : Nat.blt i n0 = true := Nat.ble_eq_true_of_le hi
  rw [this]
 have hi0 : ∀ i, n0 ≤ i → rOf n0 L bad i = assocN L bad i := by
  intro i hi
  unfold rOf
  have : Nat.blt i n0 = false := by
   cases hq : Nat.blt i n0 with
   | false => rfl
   | true => have : i < n0 := Nat.le_of_ble_eq_true hq; omega
  rw [this]
 have entry : ∀ x ∈ L, (x.1 < n0 → x.2.1 = x.1) ∧ x.1 < nx2 ∧ (cx.lo ≤ x.1 → cx.lo ≤ x.2.1 ∧ x.2.2.root = x.1 ∧ x.2.2.kin = [x.1]) := by
  intro x hx
  have := List.all_eq_true.1 c4 x hx
  simp only [Bool.and_eq_true] at this
  obtain ⟨e1, e2, e3⟩ := this
  refine ⟨fun q => ?_, Nat.le_of_ble_eq_true e2, fun q => ?_⟩
  ·have : Nat.blt x.1 n0 = true := Nat.ble_eq_true_of_le q
   rw [this] at e1
   exact Nat.eq_of_beq_eq_true e1
  ·have : Nat.blt x.1 cx.lo = false := by
    cases hq : Nat.blt x.1 cx.lo with
    | false => rfl
    | true => have : x.1 < cx.lo := Nat.le_of_ble_eq_true hq; omega
   rw [this] at e3
   simp only [cond_false, Bool.and_eq_true] at e3
   refine ⟨Nat.le_of_ble_eq_true e3.1, Nat.eq_of_beq_eq_true e3.2.1, ?_⟩
   have e4 := e3.2.2
   unfold isOne at e4
   split at e4
   ·rename_i c hc; rw [hc, Nat.eq_of_beq_eq_true e4]
   ·cases e4
 have obj : ∀ b o, (hpOf L).get b = some o → ∃ b1, (b, b1, o) ∈ L ∧ rOf n0 L bad b = b1 := by
  intro b o h
  obtain ⟨b1, h1, h2⟩ := get_hpOf L b o h
  refine ⟨b1, h1, ?_⟩
  rcases Nat.lt_or_ge b n0 with q | q
  ·rw [low b q]; exact ((entry _ h1).1 q).symm
  ·rw [hi0 b q, h2]
 have up : ∀ b pl, E (rOf n0 L bad b) = some pl → cx.lo ≤ b → cx.lo ≤ rOf n0 L bad b := by
  intro b pl h hb
  rcases Nat.lt_or_ge b n0 with q | q
  ·rw [low b q]; exact hb
  ·rw [hi0 b q] at h ⊢
   rcases assocN_cases L bad b with k | ⟨x, k1, k2, k3⟩
   ·rw [k, hbad] at h; cases h
   ·rw [k3]; subst k2; exact ((entry x k1).2.2 hb).1
 refine ⟨fun i => E (rOf n0 L bad i), ⟨⟨fun t => ?_, hs.tm.size⟩, hs.defers, ⟨fun b o p => ?_, fun b o p hx hb => ?_, fun b1 b2 o1 o2 pl1 pl2 p1 p2 d1 d2 l1 lt e1 e2 ecb => ?_, fun b pl e => hs.hr.bound _ pl e, fun b pl e hb => hs.hr.new _ pl e (up b pl e hb), fun b pl e hb => ?_, hs.hr.base⟩, ⟨fun i hi => ?_, fun i hi => ?_, Nat.le_trans hlo c1⟩, fun g hg => ?_, hs.wp⟩, fun i hi => by show E (rOf n0 L bad i) = E i; rw [low i hi]⟩
 ·rcases Nat.lt_or_ge t (2 ^ d - 1) with ht | ht
  ·rcases eval_jtm (d := d) l t ht with k | ⟨p, k1, k2, k3⟩
   ·intro hj
    have hj : isJ (St.eval (jtm d l) (.tmp t)) = false := hj
    rw [k] at hj; cases hj
   ·intro _
    subst k2
    show VR _ (St.eval (jtm d l) (.tmp p.1)) _
    rw [k3]
    have hl := List.all_eq_true.1 c3 p k1
    have hve : St.eval s.tm (.tmp p.1) = rn (rOf n0 L bad) 60 p.2 := List.map_inj_left.1 hv p k1
    have := hs.tm.val p.1 (liveOp_tmp.1 hl)
    rw [hve] at this
    exact this.rn
  ·intro hj
   have hund : (a.tmps.getD t undef) = undef := by
    have hsz := hs.tm.size
    rw [Array.getD_eq_getD_getElem?, Array.getElem?_eq_none (by omega)]
    rfl
   rw [hund]
   show VR _ (St.eval (jtm d l) (.tmp t)) undef
   have key : ∀ l : List (Nat × Value), (∀ p ∈ l, St.eval s.tm (.tmp p.1) = rn (rOf n0 L bad) 60 p.2 ∧ liveOp s.tm (.tmp p.1) = true) → isJ (St.eval (jtm d l) (.tmp t)) = false → VR (fun i => E (rOf n0 L bad i)) (St.eval (jtm d l) (.tmp t)) undef := by
    intro l
    induction l with
    | nil =>
     intro _ _
     have : (jroom d).get t = none := by
      have : ∀ (d n : Nat), 2 ^ d - 1 ≤ n → (jroom d).get n = none := by
       intro d
       induction d with
       | zero => intro n _; rfl
       | succ d ih =>
        intro n hn
        have hp : 2 ^ (d + 1) = 2 * 2 ^ d := by rw [Nat.pow_succ]; omega
        have hp0 : 0 < 2 ^ d := Nat.two_pow_pos d
        simp only [jroom, T.get]
        rcases beq_cases n 0 with ⟨e, h0⟩ | ⟨e, h0⟩
        ·omega
        ·rw [e]
         simp only
         rcases beq_cases (Nat.mod n 2) 1 with ⟨e1, h1⟩ | ⟨e1, h1⟩
         ·rw [e1]
          refine ih _ ?_
          show _ ≤ n / 2
          have h1 : n % 2 = 1 := h1
          omega
         ·rw [e1]
          refine ih _ ?_
          show _ ≤ n / 2 - 1
          have h1 : n % 2 ≠ 1 := h1
          omega
      exact this d t ht
     simp only [jtm, St.eval, this]
     exact VR.undef _
    | cons p r ih =>
     intro hall hj
     simp only [jtm, St.eval] at hj ⊢
     rw [T.get_set] at hj ⊢
     by_cases e : t = p.1
     ·rw [if_pos e] at hj ⊢
      obtain ⟨q1, q2⟩ := hall p List.mem_cons_self
      have := hs.tm.val p.1 (liveOp_tmp.1 q2)
      rw [q1, ← e, hund] at this
      exact this.rn
     ·rw [if_neg e] at hj ⊢
      exact ih (fun q hq => hall q (List.mem_cons_of_mem _ hq)) hj
   exact key l (fun p hp => ⟨List.map_inj_left.1 hv p hp, List.all_eq_true.1 c3 p hp⟩) hj
 ·obtain ⟨b1, h1, h2⟩ := obj b o p
  obtain ⟨o1, g1, g2, g3, g4, g5⟩ := ho _ h1
  obtain ⟨pl, k1, k2⟩ := hs.hr.dat b1 o1 g1
  refine ⟨pl, by show E (rOf n0 L bad b) = some pl; rw [h2]; exact k1, g5.rel g2 g3 g4 (fun q => ((entry _ h1).2.2 q).1) k2⟩
 ·obtain ⟨b1, h1, h2⟩ := obj b o p
  obtain ⟨q1, q2, q3⟩ := (entry _ h1).2.2 hb
  refine ⟨o, by rw [show o.root = b from q2]; exact p, by rw [show o.kin = [b] from q3]; simp⟩
 ·exfalso
  obtain ⟨c1', h1, r1⟩ := obj b1 o1 p1
  obtain ⟨c2', h2, r2⟩ := obj b2 o2 p2
  obtain ⟨x1, g1, _, _, _, t1⟩ := ho _ h1
  obtain ⟨x2, g2, _, _, _, t2⟩ := ho _ h2
  have hroot := apartB_spec c5 _ h1 _ h2 (show b1 ≠ b2 by omega) l1 (show cx.lo ≤ b2 by omega)
  simp only [rootIn] at hroot
  have g1' : s.H.get c1' = some x1 := g1
  have g2' : s.H.get c2' = some x2 := g2
  rw [g1', g2'] at hroot
  have e1 : E c1' = some pl1 := by rw [← r1]; exact e1
  have e2 : E c2' = some pl2 := by rw [← r2]; exact e2
  have lo1 := ((entry _ h1).2.2 l1).1
  have lo2 := ((entry _ h2).2.2 (show cx.lo ≤ b2 by omega)).1
  rcases Nat.lt_trichotomy c1' c2' with q | q | q
  ·exact hroot (hs.hr.apart c1' c2' x1 x2 pl1 pl2 g1' g2' (t1.live d1) (t2.live d2) lo1 q e1 e2 ecb).1
  ·subst q
   rw [g1'] at g2'; cases g2'
   exact hroot rfl
  ·exact hroot (hs.hr.apart c2' c1' x2 x1 pl2 pl1 g2' g1' (t2.live d2) (t1.live d1) lo2 q e2 e1 ecb.symm).1.symm
 ·have e : E (rOf n0 L bad b) = some pl := e
  rw [low b (by omega)] at e
  exact hs.hr.old b pl e hb
 ·show E (rOf n0 L bad i) = none
  rw [hi0 i (Nat.le_trans c1 hi)]
  rcases assocN_cases L bad i with k | ⟨x, k1, k2, k3⟩
  ·rw [k]; exact hbad
  ·have := (entry x k1).2.1
   have hi : nx2 ≤ i := hi
   omega
 ·show (hpOf L).get i = none
  cases hq : (hpOf L).get i with
  | none => rfl
  | some o =>
   obtain ⟨b1, h1, _⟩ := get_hpOf L i o hq
   have := (entry _ h1).2.1
   have hi : nx2 ≤ i := hi
   have : i < nx2 := this
   omega
 ·obtain ⟨pl, q1, q2⟩ := hs.glob g hg
  exact ⟨pl, by show E (rOf n0 L bad g) = some pl; rw [low g (by omega)]; exact q1, q2⟩
theorem rn_shut {r : Nat → Nat} : ∀ (d : Nat) {v : Value}, closed d v = true → rn r d v = v
 | 0, v, h => by simp [closed] at h
 | d + 1, v, h => by
  have arr : ∀ a : Array Value, a.toList.all (closed d) = true → a.map (rn r d) = a := fun a k => by
   refine Array.ext (by simp) fun i h1 h2 => ?_
   rw [Array.getElem_map]
   exact rn_shut d (closed_all k i _ (Array.getElem?_eq_getElem h2))
  unfold rn
  split
  ·simp [closed] at h
  ·simp [closed] at h
  ·simp [closed] at h
  ·simp only [closed] at h; rw [rn_shut d h]
  ·simp only [closed, Bool.and_eq_true] at h; rw [arr _ h.1, arr _ h.2]
  ·simp only [closed] at h; rw [arr _ h]
  ·simp only [closed] at h; rw [arr _ h]
  ·rfl
theorem ObjOk.lit {r : Nat → Nat} {H1 : Hp} {b1 id elem esz n : Nat} {exact : Bool} {vs : List Value} {o1 : AObj} {cs1 : T Value} (h : H1.get b1 = some o1) (he : elem = o1.elem) (hz : esz = o1.esz) (hx : exact = o1.exact) (hd : o1.dat = some (.cells n cs1))
  (hn : vs.length = n) (hv : readN cs1 0 n = some (vs.map (rn r 60))) : ObjOk r H1 b1 (mkCells id elem esz exact vs) := by
 refine ⟨o1, h, he, hz, hx, ?_⟩
 rw [hd]
 refine ⟨hn, fun i hi => ?_⟩
 obtain ⟨q1, q2⟩ := readN_spec n cs1 0 _ hv
 refine ⟨vs[i]'hi, ?_, ?_⟩
 ·rw [T.get_setList, if_pos (by omega)]
  simp [hi]
 ·have := q2 i (rn r 60 (vs[i]'hi)) (by rw [List.getElem?_map, List.getElem?_eq_getElem hi]; rfl)
  rwa [Nat.zero_add] at this
theorem ObjOk.row {r : Nat → Nat} {H1 : Hp} {b1 id elem esz n : Nat} {exact : Bool} {vs : List Value} {o1 : AObj} {cs1 : T Value} (h : H1.get b1 = some o1) (he : elem = o1.elem) (hz : esz = o1.esz) (hx : exact = o1.exact) (hd : o1.dat = some (.cells n cs1))
  (hn : vs.length = n) (hs : ∀ v ∈ vs, closed 60 v = true) (hv : ∀ i, i < n → cs1.get i = vs[i]?) : ObjOk r H1 b1 (mkCells id elem esz exact vs) := by
 refine ⟨o1, h, he, hz, hx, ?_⟩
 rw [hd]
 refine ⟨hn, fun i hi => ⟨vs[i]'hi, ?_, ?_⟩⟩
 ·rw [T.get_setList, if_pos (by omega)]
  simp [hi]
 ·rw [hv i (by omega), List.getElem?_eq_getElem hi, rn_shut 60 (hs _ (List.getElem_mem hi))]
theorem ObjOk.map {r : Nat → Nat} {H1 : Hp} {b1 id clock elem esz : Nat} {exact : Bool} {es es1 : List MapEntry} {o1 : AObj} (h : H1.get b1 = some o1) (he : elem = o1.elem) (hz : esz = o1.esz) (hx : exact = o1.exact) (hd : o1.dat = some (.map es1 clock))
  (hv : es1 = es.map fun e => { key := rn r 60 e.key, val := rn r 60 e.val, born := e.born }) : ObjOk r H1 b1 { dat := some (.map es clock), elem, esz, exact, root := id, kin := [id] } := by
 refine ⟨o1, h, he, hz, hx, ?_⟩
 rw [hd]
 exact ⟨rfl, hv⟩
variable {cx : Cx}
theorem Oper.wp_upon {P : Program} {o : Oper} {a : Act} {w : World} {K K' : Act → World → Prop} {Q Q' : Exit → Act → World → Prop} (hq : ∀ e a w, e ≠ .normal → Q e a w → Q' e a w) (h : ∀ a w, K a w → K' a w)
  (hh : o.wp P a w K Q) : o.wp P a w K' Q' := by
 have hl : LetsOut Q → LetsOut Q' := fun ⟨a, w, k⟩ => ⟨a, w, hq _ a w (by simp) k⟩
 unfold Oper.wp at *
 generalize (execOp a.eval o).run P w = r at *
 cases r with
 | ok n w' =>
  cases n <;> simp only [Oper.upon] at hh ⊢ <;>
   first
    | exact h _ _ hh
    | exact Calls.mono hh (fun e w'' he => by cases e <;> first | exact h _ _ he | exact hq _ _ _ (by simp) he | exact hl he)
    | exact Rows.mono hh (fun _ _ he => h _ _ he)
 | halt x w' => cases x <;> simp only [Oper.upon] at hh ⊢ <;> first | exact hq _ _ _ (by simp) hh | exact hh
def guardsIn (n : Nat) (o : Oper) : Bool := match o.guard with
 | none => true
 | some (j, _) => Nat.blt j n
theorem wanted_push {ops : Array Oper} {o x : Oper} {tmps : Array Value} (hg : guardsIn ops.size o = true) : Region.wanted o (yielded (ops.push x) tmps) = Region.wanted o (yielded ops tmps) := by
 unfold Region.wanted
 unfold guardsIn at hg
 cases h : o.guard with
 | none => rfl
 | some p =>
  obtain ⟨j, want⟩ := p
  rw [h] at hg
  have hj : j < ops.size := Nat.le_of_ble_eq_true hg
  simp only [yielded, Array.getElem?_push_lt hj, Array.getElem?_eq_getElem hj]
theorem wpOp_push {P : Program} {ops : Array Oper} {x : Oper} {Q Q' : Exit → Act → World → Prop} {K K' : Act → World → Prop} {i : Nat} {a : Act} {w : World} (hi : i < ops.size) (hg : ∀ o, ops[i]? = some o → guardsIn ops.size o = true)
  (hq : ∀ e a w, e ≠ .normal → Q e a w → Q' e a w) (h : ∀ a w, K a w → K' a w) (hh : wpOp P ops Q i K a w) : wpOp P (ops.push x) Q' i K' a w := by
 have hl : LetsOut Q → LetsOut Q' := fun ⟨a, w, k⟩ => ⟨a, w, hq _ a w (by simp) k⟩
 unfold wpOp at *
 have e : ops[i]? = some ops[i] := Array.getElem?_eq_getElem hi
 have e' : (ops.push x)[i]? = some ops[i] := Array.getElem?_push_lt hi
 rw [e] at hh
 rw [e']
 simp only at hh ⊢
 rw [wanted_push (hg _ e)]
 split
 ·rename_i hw
  rw [if_pos hw] at hh
  exact hh.imp (Oper.wp_upon hq h) (fun k => ⟨k.1, hl k.2⟩)
 ·rename_i hw
  rw [if_neg hw] at hh
  exact h _ _ hh
def behindAll (n : Nat) (o : Oper) : Bool := (List.range n).all fun j => o.after.toList.any fun e => Region.binds .any e && Nat.beq e.on j
theorem wpAny_last {P : Program} {ops : Array Oper} {x : Oper} {Q : Exit → Act → World → Prop} (hk : DrOk ops) (hg : ops.toList.all (guardsIn ops.size) = true) (hb : behindAll ops.size x = true) (hb2 : ∀ e ∈ x.after.toList, e.on < ops.size) :
  ∀ (fuel : Nat) (listed : Array Bool) (a : Act) (w : World), listed.size = ops.size →
   wpAny P .any ops (fun e a w => match e with
    | .normal => wpOp P (ops.push x) Q ops.size (Q .normal) a w
    | e => Q e a w) fuel listed a w → wpAny P .any (ops.push x) Q (fuel + 1) (listed.push false) a w := by
 have hq : ∀ e a w, e ≠ .normal → (match e with
       | .normal => wpOp P (ops.push x) Q ops.size (Q .normal) a w
       | e => Q e a w) → Q e a w := fun e a w he h => by cases e <;> first | exact absurd rfl he | exact h
 have hgo : ∀ (i : Nat) (o : Oper), ops[i]? = some o → guardsIn ops.size o = true := fun i o ho => List.all_eq_true.1 hg o (by
  have := Array.mem_of_getElem? ho
  exact Array.mem_toList_iff.2 this)
 have rdy : ∀ (listed : Array Bool), listed.size = ops.size → ∀ i, i < ops.size → (i ∈ Region.ready .any (ops.push x) (listed.push false) ↔ i ∈ Region.ready .any ops listed) := by
  intro listed hs i hi
  unfold Region.ready
  rw [List.mem_filter, List.mem_filter]
  have e : ops[i]? = some ops[i] := Array.getElem?_eq_getElem hi
  have e' : (ops.push x)[i]? = some ops[i] := Array.getElem?_push_lt hi
  rw [e, e']
  have hl : (listed.push false).getD i true = listed.getD i true := by
   rw [Array.getD_eq_getD_getElem?, Array.getD_eq_getD_getElem?, Array.getElem?_push_lt (by omega), Array.getElem?_eq_getElem (by omega)]
  rw [hl]
  have ha : (ops[i].after.all fun e => !Region.binds .any e || (listed.push false).getD e.on false) = ops[i].after.all fun e => !Region.binds .any e || listed.getD e.on false := by
   rw [Bool.eq_iff_iff, Array.all_eq_true', Array.all_eq_true']
   have same : ∀ y ∈ ops[i].after, (!Region.binds .any y || (listed.push false).getD y.on false) = (!Region.binds .any y || listed.getD y.on false) := by
    intro y hy
    cases hbd : Region.binds .any y with
    | false => rfl
    | true =>
     have hlt := hk.back i _ e y (Array.mem_toList_iff.2 hy) hbd
     have : (listed.push false).getD y.on false = listed.getD y.on false := by
      rw [Array.getD_eq_getD_getElem?, Array.getD_eq_getD_getElem?, Array.getElem?_push_lt (by omega), Array.getElem?_eq_getElem (by omega)]
     rw [this]
   exact ⟨fun h y hy => by rw [← same y hy]; exact h y hy, fun h y hy => by rw [same y hy]; exact h y hy⟩
  simp only [Option.map_some, Option.getD_some, ha, List.mem_range, Array.size_push]
  constructor
  ·rintro ⟨_, h⟩; exact ⟨hi, h⟩
  ·rintro ⟨_, h⟩; exact ⟨by omega, h⟩
 have last : ∀ (listed : Array Bool), listed.size = ops.size → ops.size ∈ Region.ready .any (ops.push x) (listed.push false) → ∀ j, j < ops.size → listed.getD j false = true := by
  intro listed hs h j hj
  unfold Region.ready at h
  rw [List.mem_filter] at h
  obtain ⟨_, h⟩ := h
  rw [Array.getElem?_push_size] at h
  simp only [Option.map_some, Option.getD_some, Bool.and_eq_true] at h
  have hbj := List.all_eq_true.1 hb j (List.mem_range.2 hj)
  rw [List.any_eq_true] at hbj
  obtain ⟨e, he, hbe⟩ := hbj
  rw [Bool.and_eq_true] at hbe
  have := (Array.all_eq_true'.1 h.2) e (Array.mem_toList_iff.1 he)
  rw [hbe.1] at this
  have hj' : e.on = j := Nat.eq_of_beq_eq_true hbe.2
  rw [hj'] at this
  simp only [Bool.not_true, Bool.false_or] at this
  rw [Array.getD_eq_getD_getElem?, Array.getElem?_push_lt (by omega)] at this
  rw [Array.getD_eq_getD_getElem?, Array.getElem?_eq_getElem (by omega)]
  exact this
 have memlt : ∀ (listed : Array Bool) i, i ∈ Region.ready .any (ops.push x) listed → i < ops.size ∨ i = ops.size := by
  intro listed i h
  unfold Region.ready at h
  rw [List.mem_filter, List.mem_range, Array.size_push] at h
  omega
 have fin : ∀ (fuel : Nat) (listed : Array Bool) (a : Act) (w : World), listed.size = ops.size → (∀ j, j < ops.size → listed.getD j false = true) → wpOp P (ops.push x) Q ops.size (Q .normal) a w → wpAny P .any (ops.push x) Q (fuel + 1) (listed.push false) a w := by
  intro fuel listed a w hs hall h
  have rl : ops.size ∈ Region.ready .any (ops.push x) (listed.push false) := by
   unfold Region.ready
   rw [List.mem_filter]
   refine ⟨List.mem_range.2 (by rw [Array.size_push]; omega), ?_⟩
   rw [Array.getElem?_push_size]
   simp only [Option.map_some, Option.getD_some, Bool.and_eq_true]
   refine ⟨?_, ?_⟩
   ·rw [Array.getD_eq_getD_getElem?, ← hs, Array.getElem?_push_size]; rfl
   ·rw [Array.all_eq_true']
    intro e he
    cases hbd : Region.binds .any e with
    | false => rfl
    | true =>
     have hlt := hb2 e (Array.mem_toList_iff.2 he)
     have := hall e.on hlt
     rw [Array.getD_eq_getD_getElem?, Array.getElem?_eq_getElem (by omega)] at this
     simp only [Bool.not_true, Bool.false_or]
     rw [Array.getD_eq_getD_getElem?, Array.getElem?_push_lt (by omega)]
     exact this
  have noneAfter : Region.ready .any (ops.push x) ((listed.push false).setIfInBounds ops.size true) = [] := by
   unfold Region.ready
   rw [List.filter_eq_nil_iff]
   intro j hj
   rw [List.mem_range, Array.size_push] at hj
   have : ((listed.push false).setIfInBounds ops.size true).getD j true = true := by
    rw [Array.getD_eq_getD_getElem?, Array.getElem?_setIfInBounds]
    by_cases e : ops.size = j
    ·rw [if_pos e]
     rw [if_pos (by rw [Array.size_push]; omega)]
     rfl
    ·rw [if_neg e, Array.getElem?_push_lt (by omega)]
     have := hall j (by omega)
     rw [Array.getD_eq_getD_getElem?, Array.getElem?_eq_getElem (by omega)] at this
     simpa using this
   rw [this]
   simp
  refine ⟨fun h0 => (by rw [h0] at rl; cases rl), fun i hi => ?_⟩
  have hin : i = ops.size := by
   rcases memlt _ i hi with q | q
   ·exfalso
    have := (rdy listed hs i q).1 hi
    unfold Region.ready at this
    rw [List.mem_filter] at this
    have h2 := this.2
    simp only [Bool.and_eq_true, Bool.not_eq_true'] at h2
    have h3 := hall i q
    rw [Array.getD_eq_getD_getElem?, Array.getElem?_eq_getElem (by omega)] at h3 h2
    simp at h3 h2
    rw [h3] at h2
    exact absurd h2.1 (by simp)
   ·exact q
  subst hin
  refine wpOp_mono (fun a' w' hq' => ?_) h
  cases fuel with
  | zero => exact ⟨noneAfter, hq'⟩
  | succ f => exact ⟨fun _ => hq', fun i hi => by rw [noneAfter] at hi; cases hi⟩
 intro fuel
 induction fuel with
 | zero =>
  intro listed a w hs h
  exact fin 0 listed a w hs (ready_nil hk hs h.1) h.2
 | succ fuel ih =>
  intro listed a w hs h
  cases hr : Region.ready .any ops listed with
  | nil => exact fin (fuel + 1) listed a w hs (ready_nil hk hs hr) (h.1 hr)
  | cons j0 rest =>
   have hj0 : j0 ∈ Region.ready .any ops listed := by rw [hr]; exact List.mem_cons_self
   refine ⟨fun h0 => ?_, fun i hi => ?_⟩
   ·have hlt : j0 < ops.size := by
     unfold Region.ready at hj0
     rw [List.mem_filter, List.mem_range] at hj0
     exact hj0.1
    have := (rdy listed hs j0 hlt).2 hj0
    rw [h0] at this; cases this
   ·have hlt : i < ops.size := by
     rcases memlt _ i hi with q | q
     ·exact q
     ·exfalso
      subst q
      have hall := last listed hs hi
      unfold Region.ready at hj0
      rw [List.mem_filter, List.mem_range] at hj0
      have h2 := hj0.2
      simp only [Bool.and_eq_true, Bool.not_eq_true'] at h2
      have h3 := hall j0 hj0.1
      rw [Array.getD_eq_getD_getElem?, Array.getElem?_eq_getElem (by omega)] at h3 h2
      simp at h3 h2
      rw [h3] at h2
      exact absurd h2.1 (by simp)
    have hi' := (rdy listed hs i hlt).1 hi
    refine wpOp_push hlt (fun o ho => hgo i o ho) hq (fun a' w' h' => ?_) (h.2 i hi')
    have := ih (listed.setIfInBounds i true) a' w' (by simp [hs]) h'
    have e : (listed.push false).setIfInBounds i true = (listed.setIfInBounds i true).push false := by
     refine Array.ext_getElem? fun j => ?_
     rw [Array.getElem?_setIfInBounds, Array.getElem?_push, Array.getElem?_push, Array.getElem?_setIfInBounds, Array.size_setIfInBounds, Array.size_push]
     by_cases e : i = j
     ·subst e
      rw [if_pos rfl, if_pos (by omega), if_neg (by omega), if_pos rfl, if_pos (by omega)]
     ·rw [if_neg e, if_neg e]
    rw [e]
    exact this
theorem call_wp (hc : CxOk cx) {n0 nt B : Nat} {E : Env} {s : St} {a : Act} {w : World} {o : Oper} {f : FuncId} {fn : Func} {c : Code} {args : Array Value} {R : Value → Hp → Nat → Prop} {next : Act → World → Prop} {Q : Exit → Act → World → Prop}
  (hs : SR cx B E nt s a w) (hco : constsOk cx s.tm o = true) (he : evOp cx (St.eval s.tm) o s.nx s.H = some (.enter f args, s.H)) (hb : cx.body f = some fn) (hbd : fn.body = some c)
  (h : Tr cx (s.nx + 1) (max args.size fn.ntmps) c (entry fn args s.H (s.nx + 1)) fun e s2 => (match e with | .exit _ => False | _ => True) ∧ ∃ l, evResults cx s2.tm s2.H fn.results.toList = some l ∧ R (oneOf l) s2.H s2.nx)
  (hput : ∀ v, ∃ tm2, putT s.tm nt o.dst v = some tm2)
  (hn : ∀ v tm2 H2 nx2 E2 a2 w2, R v H2 nx2 → putT s.tm nt o.dst v = some tm2 → SR cx B E2 nt { tm := tm2, H := H2, nx := nx2 } a2 w2 → (∀ i, i < s.nx → E2 i = E i) → Below B w w2 → next a2 w2) : o.wp cx.P a w next Q := by
 have hid : (match cat o.op with | .effect => True | _ => False) → ∀ c oc, s.H.get c = some oc → c < s.nx := fun _ c oc q => by
  rcases Nat.lt_or_ge c s.nx with k | k
  ·exact k
  ·rw [hs.fresh.heap c k] at q; cases q
 obtain ⟨E', w', x, hrun, st⟩ := evOp_sim hc hs.hr (hs.fresh.env s.nx (Nat.le_refl _)) (hs.fresh.heap s.nx (Nat.le_refl _)) hid hs.fresh.lo (evals_rel hs.tm hs.glob hco) he
 have hfr := st.done hs.fresh
 unfold Oper.wp
 rw [hrun]
 cases x with
 | enter f' args' =>
  obtain ⟨rfl, har⟩ := st.nr
  simp only [Oper.upon_enter]
  refine (Tr.calls hc hb hbd (hc.wp _ _ _ st.below hs.wp) st.hr hfr (hs.glob.mono st.le) har h).mono ?_
  rintro ev w2 ⟨v, v', H2, nx2, E2, rfl, r, vr, hr2, fr2, k2, b2⟩
  obtain ⟨tm2, ht⟩ := hput v
  have k3 : ∀ i, i < s.nx → E2 i = E i := fun i hi => by rw [k2 i (by omega), st.off i (by omega)]
  have le2 : E.le E2 := fun b pl hb => by
   have : b < s.nx := by
    rcases Nat.lt_or_ge b s.nx with q | q
    ·exact q
    ·rw [hs.fresh.env b q] at hb; cases hb
   rw [k3 b this]; exact hb
  exact hn v tm2 H2 nx2 E2 _ w2 r ht ⟨putT_rel (hs.tm.mono le2) vr ht, by cases hd : o.dst <;> simp [Act.put, hs.defers], hr2, fr2, hs.glob.mono le2, hc.wp _ _ _ (st.below.trans b2) hs.wp⟩ k3 (st.below.trans b2)
 | _ => exact st.nr.elim
theorem Tr.region_last (hc : CxOk cx) (hI : IntrOk cx) {n0 nt k id : Nat} {ops : Array Oper} {o : Oper} {s s1 : St} {f : FuncId} {fn : Func} {c : Code} {args : Array Value} {R : Value → Hp → Nat → Prop} {Q : AExit → St → Prop} (hn : n0 ≤ s.nx) (hn1 : n0 ≤ s1.nx)
  (hev : evDraw cx (evFunc cx k) ops nt s = some s1) (hg : ops.toList.all (guardsIn ops.size) = true) (hbh : behindAll ops.size o = true) (hb2 : (o.after.toList.all fun e => Nat.blt e.on ops.size) = true) (ho : o.guard = none)
  (hco : constsOk cx s1.tm o = true) (he : evOp cx (St.eval s1.tm) o s1.nx s1.H = some (.enter f args, s1.H)) (hb : cx.body f = some fn) (hbd : fn.body = some c)
  (h : Tr cx (s1.nx + 1) (max args.size fn.ntmps) c (entry fn args s1.H (s1.nx + 1)) fun e s2 => (match e with | .exit _ => False | _ => True) ∧ ∃ l, evResults cx s2.tm s2.H fn.results.toList = some l ∧ R (oneOf l) s2.H s2.nx)
  (hput : ∀ v, ∃ tm2, putT s1.tm nt o.dst v = some tm2) (hq : ∀ v tm2 H2 nx2, R v H2 nx2 → putT s1.tm nt o.dst v = some tm2 → Q .normal { tm := tm2, H := H2, nx := nx2 }) : Tr cx n0 nt (.region id (ops.push o) true) s Q := by
 intro B E a w W hs hW
 have hS := ev_sound hc hI k
 refine wp_region_any hc.mixed ?_
 have d := draw_any hc _ hS (evFunc_mono hI.mono k) ops nt (fun e a w => match e with
       | .normal => wpOp cx.P (ops.push o) W ops.size (W .normal) a w
       | e => W e a w) B s s1 E a w hs hev ?_
 ·have e1 : (Array.replicate ops.size false).push false = Array.replicate (ops.push o).size false := by rw [Array.size_push, Array.replicate_succ]
  rw [← e1, Array.size_push]
  exact wpAny_last d.1 hg hbh (fun e he => Nat.le_of_ble_eq_true (List.all_eq_true.1 hb2 e he)) _ _ _ _ (by simp) d.2
 ·intro E1 a1 w1 L
  show wpOp cx.P (ops.push o) W ops.size (W .normal) a1 w1
  unfold wpOp
  rw [Array.getElem?_push_size]
  simp only
  rw [if_pos (by unfold Region.wanted; rw [ho])]
  left
  refine call_wp (n0 := n0) hc L.st hco he hb hbd h hput fun v tm2 H2 nx2 E2 a2 w2 r ht h2 k2 b2 => ?_
  exact hW .normal _ E2 a2 w2 (hq v tm2 H2 nx2 r ht) h2 (fun i hi => by rw [k2 i (by omega), L.keep i (by omega)]) (L.below.trans b2)
variable {cx : Cx}
theorem wpOps_append {P : Program} {ops : Array Oper} {Q : Exit → Act → World → Prop} {l2 : List Nat} : ∀ (l1 : List Nat) (a : Act) (w : World), wpOps P ops (fun e a w => match e with
      | .normal => wpOps P ops Q l2 a w
      | e => Q e a w) l1 a w → wpOps P ops Q (l1 ++ l2) a w
 | [], a, w, h => h
 | i :: r, a, w, h => by
  simp only [List.cons_append, wpOps] at h ⊢
  have hq : ∀ (e : Exit) (a : Act) (w : World), e ≠ .normal → (match e with
   | .normal => wpOps P ops Q l2 a w
   | e => Q e a w) → Q e a w := fun e a w hne q => by
    cases e <;> first | exact absurd rfl hne | exact q
  cases hi : ops[i]? with
  | none => rw [hi] at h; exact wpOps_append r a w h
  | some o =>
   rw [hi] at h
   simp only at h ⊢
   split
   ·rename_i hw
    rw [if_pos hw] at h
    refine h.imp (Oper.wp_upon hq fun a w k => wpOps_append r a w k) (fun k => ⟨k.1, ?_⟩)
    obtain ⟨a', w', k'⟩ := k.2
    exact ⟨a', w', hq _ a' w' (by simp) k'⟩
   ·rename_i hw
    rw [if_neg hw] at h
    exact wpOps_append r _ w h
theorem Tr.region_call (hc : CxOk cx) (hI : IntrOk cx) {n0 nt k id : Nat} {l : List Oper} {o : Oper} {s s1 : St} {f : FuncId} {fn : Func} {c : Code} {args : Array Value} {R : Value → Hp → Nat → Prop} {Q : AExit → St → Prop} (hn : n0 ≤ s.nx) (hn1 : n0 ≤ s1.nx)
  (hev : evOps cx (evFunc cx k) (l ++ [o]).toArray nt l s = some s1) (ho : o.guard = none)
  (hco : constsOk cx s1.tm o = true) (he : evOp cx (St.eval s1.tm) o s1.nx s1.H = some (.enter f args, s1.H)) (hb : cx.body f = some fn) (hbd : fn.body = some c)
  (h : Tr cx (s1.nx + 1) (max args.size fn.ntmps) c (entry fn args s1.H (s1.nx + 1)) fun e s2 => (match e with | .exit _ => False | _ => True) ∧ ∃ l, evResults cx s2.tm s2.H fn.results.toList = some l ∧ R (oneOf l) s2.H s2.nx)
  (hput : ∀ v, ∃ tm2, putT s1.tm nt o.dst v = some tm2) (hq : ∀ v tm2 H2 nx2, R v H2 nx2 → putT s1.tm nt o.dst v = some tm2 → Q .normal { tm := tm2, H := H2, nx := nx2 }) : Tr cx n0 nt (.region id (l ++ [o]).toArray false) s Q := by
 intro B E a w W hs hW
 have hS := ev_sound hc hI k
 refine wp_region ?_
 have e1 : List.range (l ++ [o]).toArray.size = List.range' 0 l.length ++ [l.length] := by
  rw [← List.range_eq_range']
  simp [List.range_succ]
 rw [e1]
 refine wpOps_append _ a w ?_
 refine evOps_sound hc hS l 0 s s1 E a w (fun j p q => ?_) hs hev fun E1 a1 w1 L => ?_
 ·have hj : j < l.length := by
   rcases Nat.lt_or_ge j l.length with h | h
   ·exact h
   ·rw [List.getElem?_eq_none h] at q; cases q
  simp only [Nat.zero_add, List.getElem?_toArray]
  rw [List.getElem?_append_left hj]
  exact q
 ·show wpOps cx.P _ W [l.length] a1 w1
  have e2 : (l ++ [o]).toArray[l.length]? = some o := by simp
  simp only [wpOps, e2]
  rw [if_pos (by unfold Region.wanted; rw [ho])]
  left
  refine call_wp (n0 := n0) hc L.st hco he hb hbd h hput fun v tm2 H2 nx2 E2 a2 w2 r ht h2 k2 b2 => ?_
  exact hW .normal _ E2 a2 w2 (hq v tm2 H2 nx2 r ht) h2 (fun i hi => by rw [k2 i (by omega), L.keep i (by omega)]) (L.below.trans b2)
theorem Tr.cond {n0 nt : Nat} {x : Operand} {t f : Code} {s : St} {b : Bool} {Q : AExit → St → Prop} (hx : (operandOk cx x && liveOp s.tm x) = true) (hb : St.eval s.tm x = .bool b) (h : Tr cx n0 nt (if b then t else f) s Q) : Tr cx n0 nt (.cond x t f) s Q := by
 intro B E a w W hs hW
 rw [Bool.and_eq_true] at hx
 have hv := eval_rel hs.tm hs.glob hx.1 hx.2
 rw [hb] at hv
 have hb' := hv.shut_eq 1 rfl
 exact wp_cond hb' (h B E a w W hs hW)
variable {cx : Cx}
def canon (d nx : Nat) (l : List (Nat × Value)) (L : List (Nat × Nat × AObj)) : St := { tm := jtm d l, H := hpOf L, nx }
def big : Nat := 1000000000
theorem Tr.road {hk : Hook} (hh : HookOk cx hk) (hc : CxOk cx) (hI : IntrOk cx) {k nt n n0 d nx2 : Nat} {c : Code} {s : St} {p m bl : List Bool} {e : AExit} {l : List (Nat × Value)} {L : List (Nat × Nat × AObj)} {Q : AExit → St → Prop}
  (h1 : (evCodeO cx hk (evFuncO cx hk k) nt n c s p).map (fun r => sel m r.2.2.2) = some bl)
  (h2 : (evCodeO cx hk (evFuncO cx hk k) nt n c s p).map (fun r => (r.1, rest m r.2.2.2, renChk cx.lo n0 nt d nx2 r.2.1 l L && Nat.ble r.2.1.nx big)) = some (e, true, true))
  (he : (evCodeO cx hk (evFuncO cx hk k) nt n c s p).map (fun r => lefts r.2.2.2) = (evCodeO cx hk (evFuncO cx hk k) nt n c s p).map (fun r => rights r.2.2.2))
  (hv : (evCodeO cx hk (evFuncO cx hk k) nt n c s p).map (fun r => l.map fun q => St.eval r.2.1.tm (.tmp q.1)) = some (l.map fun q => rn (rOf n0 L big) 60 q.2))
  (ho : ∀ r, evCodeO cx hk (evFuncO cx hk k) nt n c s p = some r → ∀ x ∈ L, ObjOk (rOf n0 L big) r.2.1.H x.2.1 x.2.2)
  (hn : (Nat.ble n0 s.nx && (Nat.ble cx.lo n0 && Nat.ble cx.ng n0)) = true) (hl : ∀ b ∈ bl, b = true) (hq : Q e (canon d nx2 l L)) : Tr cx n0 nt c s Q := by
 simp only [Bool.and_eq_true] at hn
 have n1 : n0 ≤ s.nx := Nat.le_of_ble_eq_true hn.1
 have n2 : cx.lo ≤ n0 := Nat.le_of_ble_eq_true hn.2.1
 have n3 : cx.ng ≤ n0 := Nat.le_of_ble_eq_true hn.2.2
 cases hr : evCodeO cx hk (evFuncO cx hk k) nt n c s p with
 | none => rw [hr] at h1; cases h1
 | some r =>
  have ho' := ho r hr
  obtain ⟨e1, s1, p1, rs⟩ := r
  rw [hr] at h1 h2 he hv
  simp only [Option.map_some, Option.some.injEq, Prod.mk.injEq, Bool.and_eq_true] at h1 h2 he hv
  obtain ⟨rfl, h4, h5, h6⟩ := h2
  subst h1
  have hev := evCodeO_ok hh (evFuncO_ok hh k) _ _ _ _ _ _ _ _ _ hr (so_of (bools_of _ _ hl h4) he)
  refine Tr.ren_post (Tr.ev hc hI n1 ⟨k, n, hev⟩ ⟨canon d nx2 l L, ?_, hq⟩)
  exact Ren.mk (bad := big) (Nat.le_of_ble_eq_true h6) n2 n3 h5 hv ho'
theorem TrL.ren {n0 nt : Nat} {c : Code} {l : List Code} {s s2 : St} {Q : AExit → St → Prop} (h : Ren cx n0 nt s s2) (k : TrL cx n0 nt (c :: l) s2 Q) : TrL cx n0 nt (c :: l) s Q := Tr.ren h k
theorem TrL.road {hk : Hook} (hh : HookOk cx hk) (hc : CxOk cx) (hI : IntrOk cx) {k nt n n0 d nx2 : Nat} {lc lc' : List Code} {c' : Code} {s : St} {p m bl : List Bool} {l : List (Nat × Value)} {L : List (Nat × Nat × AObj)} {Q : AExit → St → Prop}
  (h1 : (evCodeO cx hk (evFuncO cx hk k) nt n (unspine lc) s p).map (fun r => sel m r.2.2.2) = some bl)
  (h2 : (evCodeO cx hk (evFuncO cx hk k) nt n (unspine lc) s p).map (fun r => (r.1, rest m r.2.2.2, renChk cx.lo n0 nt d nx2 r.2.1 l L && Nat.ble r.2.1.nx big)) = some (.normal, true, true))
  (he : (evCodeO cx hk (evFuncO cx hk k) nt n (unspine lc) s p).map (fun r => lefts r.2.2.2) = (evCodeO cx hk (evFuncO cx hk k) nt n (unspine lc) s p).map (fun r => rights r.2.2.2))
  (hv : (evCodeO cx hk (evFuncO cx hk k) nt n (unspine lc) s p).map (fun r => l.map fun q => St.eval r.2.1.tm (.tmp q.1)) = some (l.map fun q => rn (rOf n0 L big) 60 q.2))
  (ho : ∀ r, evCodeO cx hk (evFuncO cx hk k) nt n (unspine lc) s p = some r → ∀ x ∈ L, ObjOk (rOf n0 L big) r.2.1.H x.2.1 x.2.2)
  (hn : (Nat.ble n0 s.nx && (Nat.ble cx.lo n0 && Nat.ble cx.ng n0)) = true) (hl : ∀ b ∈ bl, b = true) (hq : TrL cx n0 nt (c' :: lc') (canon d nx2 l L) Q) : TrL cx n0 nt (lc ++ c' :: lc') s Q := by
 simp only [Bool.and_eq_true] at hn
 have n1 : n0 ≤ s.nx := Nat.le_of_ble_eq_true hn.1
 have n2 : cx.lo ≤ n0 := Nat.le_of_ble_eq_true hn.2.1
 have n3 : cx.ng ≤ n0 := Nat.le_of_ble_eq_true hn.2.2
 cases hr : evCodeO cx hk (evFuncO cx hk k) nt n (unspine lc) s p with
 | none => rw [hr] at h1; cases h1
 | some r =>
  have ho' := ho r hr
  obtain ⟨e1, s1, p1, rs⟩ := r
  rw [hr] at h1 h2 he hv
  simp only [Option.map_some, Option.some.injEq, Prod.mk.injEq, Bool.and_eq_true] at h1 h2 he hv
  obtain ⟨rfl, h4, h5, h6⟩ := h2
  subst h1
  have hev := evCodeO_ok hh (evFuncO_ok hh k) _ _ _ _ _ _ _ _ _ hr (so_of (bools_of _ _ hl h4) he)
  refine TrL.append (TrL.of_evl hc hI (EvL.of_unspine lc ⟨k, n, hev⟩) n1 ?_)
  exact TrL.ren (Ren.mk (bad := big) (Nat.le_of_ble_eq_true h6) n2 n3 h5 hv ho') hq
theorem TrL.fin {hk : Hook} (hh : HookOk cx hk) (hc : CxOk cx) (hI : IntrOk cx) {k nt n n0 : Nat} {lc : List Code} {s : St} {p m bl : List Bool} {rv : List ResultVar} {vs : List Value} {R : Value → Hp → Nat → Prop}
  (h1 : (evCodeO cx hk (evFuncO cx hk k) nt n (unspine lc) s p).map (fun r => sel m r.2.2.2) = some bl)
  (h2 : (evCodeO cx hk (evFuncO cx hk k) nt n (unspine lc) s p).map (fun r => (r.1, rest m r.2.2.2)) = some (.ret, true))
  (he : (evCodeO cx hk (evFuncO cx hk k) nt n (unspine lc) s p).map (fun r => lefts r.2.2.2) = (evCodeO cx hk (evFuncO cx hk k) nt n (unspine lc) s p).map (fun r => rights r.2.2.2))
  (hv : (evCodeO cx hk (evFuncO cx hk k) nt n (unspine lc) s p).map (fun r => evResults cx r.2.1.tm r.2.1.H rv) = some (some vs))
  (hn : Nat.ble n0 s.nx = true) (hl : ∀ b ∈ bl, b = true) (hq : ∀ H nx, R (oneOf vs) H nx) :
  TrL cx n0 nt lc s fun e s2 => (match e with | .exit _ => False | _ => True) ∧ ∃ l, evResults cx s2.tm s2.H rv = some l ∧ R (oneOf l) s2.H s2.nx := by
 cases hr : evCodeO cx hk (evFuncO cx hk k) nt n (unspine lc) s p with
 | none => rw [hr] at h1; cases h1
 | some r =>
  obtain ⟨e1, s1, p1, rs⟩ := r
  rw [hr] at h1 h2 he hv
  simp only [Option.map_some, Option.some.injEq, Prod.mk.injEq] at h1 h2 he hv
  obtain ⟨rfl, h4⟩ := h2
  subst h1
  have hev := evCodeO_ok hh (evFuncO_ok hh k) _ _ _ _ _ _ _ _ _ hr (so_of (bools_of _ _ hl h4) he)
  exact TrL.of_evl hc hI (EvL.of_unspine lc ⟨k, n, hev⟩) (Nat.le_of_ble_eq_true hn) ⟨trivial, vs, hv, hq _ _⟩
def objView (H : Hp) (b : Nat) : Option (TypeId × Nat × Bool × Nat × T Value) := match H.get b with
 | some o => match o.dat with
  | some (.cells n cs) => some (o.elem, o.esz, o.exact, n, cs)
  | _ => none
 | none => none
def cellView (H : Hp) (b : Nat) : Option (TypeId × Nat × Bool × List Value) := match H.get b with
 | some o => match o.dat with
  | some (.cells n cs) => match readN cs 0 n with
   | some l => some (o.elem, o.esz, o.exact, l)
   | none => none
  | _ => none
 | none => none
def mapView (H : Hp) (b : Nat) : Option (TypeId × Nat × Bool × List MapEntry × Nat) := match H.get b with
 | some o => match o.dat with
  | some (.map es c) => some (o.elem, o.esz, o.exact, es, c)
  | _ => none
 | none => none
theorem readN_len : ∀ (n : Nat) (cs : T Value) (o : Nat) (l : List Value), readN cs o n = some l → l.length = n
 | 0, cs, o, l, h => by cases h; rfl
 | n + 1, cs, o, l, h => by
  simp only [readN] at h
  split at h
  ·cases h
  ·split at h
   ·cases h
   ·rename_i l' hl; cases h; simp [readN_len n _ _ _ hl]
theorem ObjOk.view {r : Nat → Nat} {H : Hp} {b1 id elem esz : Nat} {exact : Bool} {vs : List Value} (h : cellView H b1 = some (elem, esz, exact, vs.map (rn r 60))) : ObjOk r H b1 (mkCells id elem esz exact vs) := by
 unfold cellView at h
 split at h
 ·rename_i o ho
  split at h
  ·rename_i n cs hd
   split at h
   ·rename_i l hl
    simp only [Option.some.injEq, Prod.mk.injEq] at h
    obtain ⟨rfl, rfl, rfl, rfl⟩ := h
    have hlen := readN_len _ _ _ _ hl
    exact ObjOk.lit ho rfl rfl rfl hd (by simpa using hlen) hl
   ·cases h
  ·cases h
 ·cases h
theorem ObjOk.rowView {r : Nat → Nat} {H : Hp} {b1 id elem esz n : Nat} {exact : Bool} {vs : List Value} {cs : T Value} (h : objView H b1 = some (elem, esz, exact, n, cs)) (hn : vs.length = n) (hs : ∀ v ∈ vs, closed 60 v = true) (hv : ∀ i, i < n → cs.get i = vs[i]?) :
  ObjOk r H b1 (mkCells id elem esz exact vs) := by
 unfold objView at h
 split at h
 ·rename_i o ho
  split at h
  ·rename_i n' cs' hd
   simp only [Option.some.injEq, Prod.mk.injEq] at h
   obtain ⟨rfl, rfl, rfl, rfl, rfl⟩ := h
   exact ObjOk.row ho rfl rfl rfl hd hn hs hv
  ·cases h
 ·cases h
theorem ObjOk.mapView {r : Nat → Nat} {H : Hp} {b1 id clock elem esz : Nat} {exact : Bool} {es : List MapEntry} (h : mapView H b1 = some (elem, esz, exact, es.map (fun e => { key := rn r 60 e.key, val := rn r 60 e.val, born := e.born }), clock)) :
  ObjOk r H b1 { dat := some (.map es clock), elem, esz, exact, root := id, kin := [id] } := by
 unfold Go.Ev.mapView at h
 split at h
 ·rename_i o ho
  split at h
  ·rename_i es1 c hd
   simp only [Option.some.injEq, Prod.mk.injEq] at h
   obtain ⟨rfl, rfl, rfl, rfl, rfl⟩ := h
   exact ObjOk.map ho rfl rfl rfl hd rfl
  ·cases h
 ·cases h
theorem jN {P : Nat × Nat × AObj → Prop} : ∀ x ∈ ([] : List (Nat × Nat × AObj)), P x := fun x h => by cases h
theorem jC {P : Nat × Nat × AObj → Prop} {x : Nat × Nat × AObj} {L : List (Nat × Nat × AObj)} (h : P x) (k : ∀ x ∈ L, P x) : ∀ y ∈ x :: L, P y := fun y hy => by
 rcases List.mem_cons.1 hy with rfl | hy
 ·exact h
 ·exact k y hy
theorem of_road {α β : Type} {o : Option α} {f : α → β} {v : β} {r : α} (h : o.map f = some v) (hr : o = some r) : f r = v := by
 rw [hr] at h
 exact Option.some.inj h
end Go.Ev
