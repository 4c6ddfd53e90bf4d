import Derived.Test.YthopphfehgdocaaGreatDoorGen8
namespace Go.Ev
open Go.RowKit
set_option linter.unusedSimpArgs false
set_option linter.unusedVariables false
variable {cx : Cx}

/-! ### Loops: a map of temporaries as a function of their numbers -/
/-- the map of this depth that holds g -/
def full {α : Type} : Nat → Nat → Nat → (Nat → Option α) → T α
  | 0, _, _, _ => .nil
  | d + 1, a, b, g => .node (g b) (full d (Nat.mul 2 a) (Nat.add a b) g) (full d (Nat.mul 2 a) (Nat.add (Nat.mul 2 a) b) g)
/-- a function written anew at some numbers -/
def upd {α : Type} : List (Nat × α) → (Nat → Option α) → Nat → Option α
  | [], g, i => g i
  | (k, v) :: r, g, i => match Nat.beq i k with
    | true => some v
    | false => upd r g i
/-- the state of a loop -/
def lst (d : Nat) (l : List (Nat × Value)) (g : Nat → Option Value) : T Value := full d 1 0 (upd l g)

/-- a road through code, read off -/
theorem orc_code {hk : Hook} (hh : HookOk cx hk) {k nt n : Nat} {c : Code} {s s' : St} {p m l : List Bool} {e : AExit}
    (h1 : (evCodeO cx hk (evFuncO cx hk k) nt n c s p).map (fun r => sel m r.2.2.2) = some l)
    (h2 : (evCodeO cx hk (evFuncO cx hk k) nt n c s p).map (fun r => (r.1, r.2.1, rest m r.2.2.2)) = some (e, s', true))
    (he : (evCodeO cx hk (evFuncO cx hk k) nt n c s p).map (fun r => lefts r.2.2.2) = (evCodeO cx hk (evFuncO cx hk k) nt n c s p).map (fun r => rights r.2.2.2)) (hl : ∀ b ∈ l, b = true) : evCode cx (evFunc cx k) nt n c s = some (e, s') := by
  cases hq : evCodeO cx hk (evFuncO cx hk k) nt n c s p with
  | none => rw [hq] at h1; cases h1
  | some r =>
    obtain ⟨e1, s1, p1, rs⟩ := r
    rw [hq] at h1 h2 he
    simp only [Option.map_some, Option.some.injEq, Prod.mk.injEq] at h1 h2 he
    obtain ⟨rfl, rfl, h4⟩ := h2
    subst h1
    exact evCodeO_ok hh (evFuncO_ok hh k) _ _ _ _ _ _ _ _ _ hq (so_of (bools_of _ _ hl h4) he)

/-- one more round of a loop -/
theorem loop_more {K : Caller} {nt n : Nat} {b : Code} {s s' : St} (h : evCode cx K nt n b s = some (.normal, s')) : evCode cx K nt (n + 1) (.loop b) s = evCode cx K nt n (.loop b) s' := by
  simp only [evCode, h]
/-- a loop that is left -/
theorem loop_exit {K : Caller} {nt n k : Nat} {b : Code} {s s' : St} (h : evCode cx K nt n b s = some (.exit k, s')) : evCode cx K nt (n + 1) (.loop b) s = some (.exit k, s') := by
  simp only [evCode, h]
end Go.Ev
namespace Go.Ev
open Go.RowKit
set_option linter.unusedSimpArgs false
set_option linter.unusedVariables false
variable {cx : Cx}

/-! ### More fuel gives the same -/
def KLe (K K' : Caller) : Prop := ∀ f args H nx r, K f args H nx = some r → K' f args H nx = some r

theorem evFull_le {K K' : Caller} (hK : KLe K K') {ρ : Operand → Value} {o : Oper} {H : Hp} {nx : Nat} {r : Value × Hp × Nat} (h : evFull cx K ρ o H nx = some r) : evFull cx K' ρ o H nx = some r := by
  unfold evFull at h ⊢
  cases he : evOp cx ρ o nx H with
  | none => rw [he] at h; cases h
  | some p =>
    obtain ⟨a, H1⟩ := p
    rw [he] at h
    cases a with
    | val v => exact h
    | skip => exact h
    | enter f args => exact hK _ _ _ _ _ h

theorem evOps_le {K K' : Caller} (hK : KLe K K') (ops : Array Oper) (nt : Nat) : ∀ (l : List Oper) (s s' : St), evOps cx K ops nt l s = some s' → evOps cx K' ops nt l s = some s'
  | [], s, s', h => by simpa only [evOps] using h
  | o :: rest, s, s', h => by
    simp only [evOps] at h ⊢
    cases hgd : guardOk ops s.tm o with
    | false => rw [hgd] at h; cases h
    | true =>
    rw [hgd] at h
    simp only at h ⊢
    cases hw : wantedT o ops s.tm with
    | false =>
      rw [hw] at h
      simp only at h ⊢
      cases hp : putT s.tm nt o.dst undef with
      | none => rw [hp] at h; cases h
      | some tm => rw [hp] at h; exact evOps_le hK ops nt rest _ _ h
    | true =>
      rw [hw] at h
      simp only at h ⊢
      cases hc : constsOk cx s.tm o with
      | false => rw [hc] at h; cases h
      | true =>
        rw [hc] at h
        simp only at h ⊢
        cases hf : evFull cx K (St.eval s.tm) o s.H s.nx with
        | none => rw [hf] at h; cases h
        | some r =>
          obtain ⟨v, H, nx⟩ := r
          rw [hf] at h
          rw [evFull_le hK hf]
          simp only at h ⊢
          cases hp : putT s.tm nt o.dst v with
          | none => rw [hp] at h; cases h
          | some tm => rw [hp] at h; exact evOps_le hK ops nt rest _ _ h

theorem drStep_le {K K' : Caller} (hK : KLe K K') {ops : Array Oper} {nt : Nat} {preds : Array Nat} {base j : Nat} {o : Oper} {s s' : Dr} (h : drStep cx K ops nt preds base j o s = some s') : drStep cx K' ops nt preds base j o s = some s' := by
  unfold drStep at h ⊢
  simp only at h ⊢
  cases hgd : guardOk ops s.tm o with
  | false => rw [hgd] at h; cases h
  | true =>
  rw [hgd] at h
  simp only at h ⊢
  cases hw : wantedT o ops s.tm with
  | false => rw [hw] at h; exact h
  | true =>
    rw [hw] at h
    simp only at h ⊢
    cases hc : constsOk cx s.tm o with
    | false => rw [hc] at h; cases h
    | true =>
      rw [hc] at h
      simp only at h ⊢
      cases hcat : cat o.op with
      | pure => rw [hcat] at h; exact h
      | alloc => rw [hcat] at h; exact h
      | load => rw [hcat] at h; exact h
      | effect =>
        rw [hcat] at h
        simp only at h ⊢
        cases hl : lastIn (preds.getD j 0) s.stages with
        | false => rw [hl] at h; cases h
        | true =>
          rw [hl] at h
          simp only at h ⊢
          cases hf : evFull cx K (St.eval s.tm) o (minHeap s.G s.all (preds.getD j 0)) s.nx with
          | none => rw [hf] at h; cases h
          | some r =>
            rw [hf] at h
            rw [evFull_le hK hf]
            exact h

theorem drOps_le {K K' : Caller} (hK : KLe K K') {ops : Array Oper} {nt : Nat} {preds : Array Nat} {base : Nat} : ∀ (l : List (Oper × Nat)) (s s' : Dr), drOps cx K ops nt preds base l s = some s' → drOps cx K' ops nt preds base l s = some s'
  | [], s, s', h => by simpa only [drOps] using h
  | (o, j) :: r, s, s', h => by
    simp only [drOps] at h ⊢
    cases h1 : drStep cx K ops nt preds base j o s with
    | none => rw [h1] at h; cases h
    | some s1 =>
      rw [h1] at h
      rw [drStep_le hK h1]
      exact drOps_le hK r _ _ h

theorem evDraw_le {K K' : Caller} (hK : KLe K K') {ops : Array Oper} {nt : Nat} {s s' : St} (h : evDraw cx K ops nt s = some s') : evDraw cx K' ops nt s = some s' := by
  unfold evDraw at h ⊢
  simp only at h ⊢
  cases hd : drOk ops (predsGo ops.toList #[]) with
  | false => rw [hd] at h; cases h
  | true =>
    rw [hd] at h
    simp only at h ⊢
    generalize hs0 : ({ tm := s.tm, G := s.H, nx := Nat.add s.nx ops.size, all := [], stages := [], loads := [] } : Dr) = d0 at h ⊢
    cases h1 : drOps cx K ops nt (predsGo ops.toList #[]) s.nx ops.toList.zipIdx d0 with
    | none => rw [h1] at h; cases h
    | some d =>
      rw [h1] at h
      rw [drOps_le hK _ _ _ h1]
      exact h

theorem evCode_le {K K' : Caller} (hK : KLe K K') (nt : Nat) : ∀ (n m : Nat), n ≤ m → ∀ (c : Code) (s : St) (r : AExit × St), evCode cx K nt n c s = some r → evCode cx K' nt m c s = some r
  | 0, m, _, c, s, r, h => by simp only [evCode] at h; cases h
  | n + 1, 0, hm, c, s, r, h => by omega
  | n + 1, m + 1, hm, c, s, r, h => by
    have ih := evCode_le hK nt n m (by omega)
    cases c with
    | skip => exact h
    | label k => exact h
    | region k ops d => cases d with
      | false =>
        simp only [evCode] at h ⊢
        cases h1 : evOps cx K ops nt ops.toList s with
        | none => rw [h1] at h; cases h
        | some s1 => rw [h1] at h; rw [evOps_le hK _ _ _ _ _ h1]; exact h
      | true =>
        simp only [evCode] at h ⊢
        cases h1 : evDraw cx K ops nt s with
        | none => rw [h1] at h; cases h
        | some s1 => rw [h1] at h; rw [evDraw_le hK h1]; exact h
    | seq a b =>
      simp only [evCode] at h ⊢
      cases hq : evCode cx K nt n a s with
      | none => rw [hq] at h; cases h
      | some r2 =>
        rw [hq] at h
        rw [ih _ _ _ hq]
        obtain ⟨e2, s2⟩ := r2
        cases e2 with
        | normal => exact ih _ _ _ h
        | exit k => exact h
        | ret => exact h
    | cond x a b =>
      simp only [evCode] at h ⊢
      cases ho : operandOk cx x && liveOp s.tm x with
      | false => rw [ho] at h; cases h
      | true =>
        rw [ho] at h
        simp only at h ⊢
        cases he : St.eval s.tm x with
        | bool t => rw [he] at h; exact ih _ _ _ h
        | _ => rw [he] at h; cases h
    | block id b =>
      simp only [evCode] at h ⊢
      cases hq : evCode cx K nt n b s with
      | none => rw [hq] at h; cases h
      | some r2 => rw [hq] at h; rw [ih _ _ _ hq]; exact h
    | loop b =>
      simp only [evCode] at h ⊢
      cases hq : evCode cx K nt n b s with
      | none => rw [hq] at h; cases h
      | some r2 =>
        rw [hq] at h
        rw [ih _ _ _ hq]
        obtain ⟨e2, s2⟩ := r2
        cases e2 with
        | normal => exact ih _ _ _ h
        | exit k => exact h
        | ret => exact h
    | exit k => exact h
    | ret => exact h
    | _ => simp only [evCode] at h; cases h

theorem evFunc_le : ∀ (n m : Nat), n ≤ m → KLe (evFunc cx n) (evFunc cx m)
  | 0, m, _ => fun f args H nx r h => by simp only [evFunc] at h; cases h
  | n + 1, 0, hm => by omega
  | n + 1, m + 1, hm => fun f args H nx r h => by
    have ih := evFunc_le n m (by omega)
    simp only [evFunc] at h ⊢
    cases hg : cx.intr f with
    | some g => rw [hg] at h; exact h
    | none =>
      rw [hg] at h
      simp only at h ⊢
      cases hfn : cx.body f with
      | none => rw [hfn] at h; cases h
      | some fn =>
        rw [hfn] at h
        simp only at h ⊢
        cases hc : fn.body with
        | none => rw [hc] at h; cases h
        | some c =>
          rw [hc] at h
          simp only at h ⊢
          generalize hs0 : ({ tm := T.setList (T.room (Nat.add (Nat.log2 (max args.size fn.ntmps)) 1)) 0 args.toList, H, nx } : St) = s0 at h ⊢
          cases hq : evCode cx (evFunc cx n) (max args.size fn.ntmps) n c s0 with
          | none => rw [hq] at h; cases h
          | some r2 =>
            rw [hq] at h
            rw [evCode_le ih _ n m (by omega) _ _ _ hq]
            exact h

/-! ### Big steps without fuel -/
def EvC (cx : Cx) (nt : Nat) (c : Code) (s : St) (e : AExit) (s' : St) : Prop := ∃ k n, evCode cx (evFunc cx k) nt n c s = some (e, s')
def EvF (cx : Cx) (f : FuncId) (args : Array Value) (H : Hp) (nx : Nat) (v : Value) (H' : Hp) (nx' : Nat) : Prop := ∃ n, evFunc cx n f args H nx = some (v, H', nx')

theorem EvC.up {nt : Nat} {c : Code} {s s' : St} {e : AExit} (h : EvC cx nt c s e s') : ∃ N, ∀ k n, N ≤ k → N ≤ n → evCode cx (evFunc cx k) nt n c s = some (e, s') := by
  obtain ⟨k, n, h⟩ := h
  exact ⟨max k n, fun k' n' hk hn => evCode_le (evFunc_le k k' (by omega)) nt n n' (by omega) _ _ _ h⟩
theorem EvC.seq {nt : Nat} {a b : Code} {s s1 s2 : St} {e : AExit} (h1 : EvC cx nt a s .normal s1) (h2 : EvC cx nt b s1 e s2) : EvC cx nt (.seq a b) s e s2 := by
  obtain ⟨N, h1⟩ := h1.up
  obtain ⟨M, h2⟩ := h2.up
  refine ⟨max N M, max N M + 1, ?_⟩
  simp only [evCode, h1 (max N M) (max N M) (by omega) (by omega)]
  exact h2 _ _ (by omega) (by omega)
theorem EvC.seq_out {nt : Nat} {a b : Code} {s s1 : St} {e : AExit} (h1 : EvC cx nt a s e s1) (he : e ≠ .normal) : EvC cx nt (.seq a b) s e s1 := by
  obtain ⟨N, h1⟩ := h1.up
  refine ⟨N, N + 1, ?_⟩
  simp only [evCode, h1 N N (Nat.le_refl _) (Nat.le_refl _)]
  cases e <;> first | rfl | exact absurd rfl he
theorem EvC.block_exit {nt id : Nat} {b : Code} {s s1 : St} (h1 : EvC cx nt b s (.exit id) s1) : EvC cx nt (.block id b) s .normal s1 := by
  obtain ⟨N, h1⟩ := h1.up
  refine ⟨N, N + 1, ?_⟩
  simp only [evCode, h1 N N (Nat.le_refl _) (Nat.le_refl _), if_true]
theorem EvC.block_norm {nt id : Nat} {b : Code} {s s1 : St} (h1 : EvC cx nt b s .normal s1) : EvC cx nt (.block id b) s .normal s1 := by
  obtain ⟨N, h1⟩ := h1.up
  refine ⟨N, N + 1, ?_⟩
  simp only [evCode, h1 N N (Nat.le_refl _) (Nat.le_refl _)]
theorem EvC.block_ret {nt id : Nat} {b : Code} {s s1 : St} (h1 : EvC cx nt b s .ret s1) : EvC cx nt (.block id b) s .ret s1 := by
  obtain ⟨N, h1⟩ := h1.up
  refine ⟨N, N + 1, ?_⟩
  simp only [evCode, h1 N N (Nat.le_refl _) (Nat.le_refl _)]
theorem EvC.loop_more {nt : Nat} {b : Code} {s s1 s2 : St} {e : AExit} (h1 : EvC cx nt b s .normal s1) (h2 : EvC cx nt (.loop b) s1 e s2) : EvC cx nt (.loop b) s e s2 := by
  obtain ⟨N, h1⟩ := h1.up
  obtain ⟨M, h2⟩ := h2.up
  refine ⟨max N M, max N M + 1, ?_⟩
  simp only [evCode, h1 (max N M) (max N M) (by omega) (by omega)]
  exact h2 _ _ (by omega) (by omega)
theorem EvC.loop_out {nt : Nat} {b : Code} {s s1 : St} {e : AExit} (h1 : EvC cx nt b s e s1) (he : e ≠ .normal) : EvC cx nt (.loop b) s e s1 := by
  obtain ⟨N, h1⟩ := h1.up
  refine ⟨N, N + 1, ?_⟩
  simp only [evCode, h1 N N (Nat.le_refl _) (Nat.le_refl _)]
  cases e <;> first | rfl | exact absurd rfl he
/-- a function is its code -/
theorem EvF.of_code {f : FuncId} {fn : Func} {c : Code} {args : Array Value} {H : Hp} {nx : Nat} {e : AExit} {s : St} {l : List Value} (hi : cx.intr f = none) (hb : cx.body f = some fn) (hc : fn.body = some c)
    (h : EvC cx (max args.size fn.ntmps) c { tm := T.setList (T.room (Nat.add (Nat.log2 (max args.size fn.ntmps)) 1)) 0 args.toList, H, nx } e s) (he : ∀ k, e ≠ .exit k) (hl : evResults cx s.tm s.H fn.results.toList = some l) :
    EvF cx f args H nx (oneOf l) s.H s.nx := by
  obtain ⟨N, h⟩ := h.up
  refine ⟨N + 1, ?_⟩
  simp only [evFunc, hi, hb, hc, h N N (Nat.le_refl _) (Nat.le_refl _)]
  cases e with
  | exit k => exact absurd rfl (he k)
  | normal => simp only [hl]
  | ret => simp only [hl]

theorem EvF.of_code' {f : FuncId} {fn : Func} {c : Code} {args : Array Value} {H : Hp} {nx nt : Nat} {tm : T Value} {e : AExit} {s : St} {l : List Value} (hi : cx.intr f = none) (hb : cx.body f = some fn) (hc : fn.body = some c)
    (hnt : max args.size fn.ntmps = nt) (htm : T.setList (T.room (Nat.add (Nat.log2 nt) 1)) 0 args.toList = tm)
    (h : EvC cx nt c { tm, H, nx } e s) (he : ∀ k, e ≠ .exit k) (hl : evResults cx s.tm s.H fn.results.toList = some l) : EvF cx f args H nx (oneOf l) s.H s.nx := by
  subst hnt
  subst htm
  exact EvF.of_code hi hb hc h he hl

/-! ### The pieces of a sequence -/
def spine : Code → List Code
  | .seq a b => spine a ++ spine b
  | c => [c]
inductive EvL (cx : Cx) (nt : Nat) : List Code → St → AExit → St → Prop
  | nil (s : St) : EvL cx nt [] s .normal s
  | step {c : Code} {l : List Code} {s s1 s2 : St} {e : AExit} (h : EvC cx nt c s .normal s1) (k : EvL cx nt l s1 e s2) : EvL cx nt (c :: l) s e s2
  | out {c : Code} {l : List Code} {s s1 : St} {e : AExit} (h : EvC cx nt c s e s1) (he : e ≠ .normal) : EvL cx nt (c :: l) s e s1
theorem EvL.cases_append {nt : Nat} : ∀ {l l' : List Code} {s : St} {e : AExit} {s' : St}, EvL cx nt (l ++ l') s e s' → (∃ s1, EvL cx nt l s .normal s1 ∧ EvL cx nt l' s1 e s') ∨ (EvL cx nt l s e s' ∧ e ≠ .normal)
  | [], l', s, e, s', h => .inl ⟨s, .nil s, h⟩
  | c :: l, l', s, e, s', h => by
    cases h with
    | step h k =>
      rcases EvL.cases_append k with ⟨s1, h1, h2⟩ | ⟨h1, h2⟩
      · exact .inl ⟨s1, .step h h1, h2⟩
      · exact .inr ⟨.step h h1, h2⟩
    | out h he => exact .inr ⟨.out h he, he⟩
theorem EvL.append {nt : Nat} : ∀ {l l' : List Code} {s s1 s' : St} {e : AExit}, EvL cx nt l s .normal s1 → EvL cx nt l' s1 e s' → EvL cx nt (l ++ l') s e s'
  | [], l', s, s1, s', e, h, k => by cases h; exact k
  | c :: l, l', s, s1, s', e, h, k => by
    cases h with
    | step h h1 => exact .step h (EvL.append h1 k)
    | out h he => exact absurd rfl he
theorem EvC.of_spine {nt : Nat} : ∀ (c : Code) {s : St} {e : AExit} {s' : St}, EvL cx nt (spine c) s e s' → EvC cx nt c s e s'
  | .seq a b, s, e, s', h => by
    simp only [spine] at h
    rcases EvL.cases_append h with ⟨s1, h1, h2⟩ | ⟨h1, h2⟩
    · exact (EvC.of_spine a h1).seq (EvC.of_spine b h2)
    · exact (EvC.of_spine a h1).seq_out h2
  | .skip, s, e, s', h | .label _, s, e, s', h | .region _ _ _, s, e, s', h | .cond _ _ _, s, e, s', h | .block _ _, s, e, s', h | .loop _, s, e, s', h | .exit _, s, e, s', h | .ret, s, e, s', h => by
    simp only [spine] at h
    cases h with
    | step h k => cases k; exact h
    | out h he => exact h
  | .rangeFunc .., s, e, s', h | .scope .., s, e, s', h | .goto .., s, e, s', h | .refuse .., s, e, s', h => by
    simp only [spine] at h
    cases h with
    | step h k => cases k; exact h
    | out h he => exact h
/-- pieces as one code again -/
def unspine : List Code → Code
  | [] => .skip
  | [c] => c
  | c :: l => .seq c (unspine l)
theorem evC_seq_inv {nt : Nat} {a b : Code} {s : St} {e : AExit} {s' : St} (h : EvC cx nt (.seq a b) s e s') : (∃ s1, EvC cx nt a s .normal s1 ∧ EvC cx nt b s1 e s') ∨ (EvC cx nt a s e s' ∧ e ≠ .normal) := by
  obtain ⟨k, n, h⟩ := h
  cases n with
  | zero => simp only [evCode] at h; cases h
  | succ n =>
    simp only [evCode] at h
    cases hq : evCode cx (evFunc cx k) nt n a s with
    | none => rw [hq] at h; cases h
    | some r =>
      obtain ⟨e1, s1⟩ := r
      rw [hq] at h
      cases e1 with
      | normal => exact .inl ⟨s1, ⟨k, n, hq⟩, ⟨k, n, h⟩⟩
      | exit j => cases h; exact .inr ⟨⟨k, n, hq⟩, by simp⟩
      | ret => cases h; exact .inr ⟨⟨k, n, hq⟩, by simp⟩
theorem EvL.of_unspine {nt : Nat} : ∀ (l : List Code) {s : St} {e : AExit} {s' : St}, EvC cx nt (unspine l) s e s' → EvL cx nt l s e s'
  | [], s, e, s', h => by
    obtain ⟨k, n, h⟩ := h
    cases n with
    | zero => simp only [evCode] at h; cases h
    | succ n => simp only [unspine, evCode] at h; cases h; exact .nil s
  | [c], s, e, s', h => by
    by_cases he : e = .normal
    · subst he; exact .step h (.nil _)
    · exact .out h he
  | c :: d :: l, s, e, s', h => by
    rcases evC_seq_inv (show EvC cx nt (.seq c (unspine (d :: l))) s e s' from h) with ⟨s1, h1, h2⟩ | ⟨h1, h2⟩
    · exact .step h1 (EvL.of_unspine (d :: l) h2)
    · exact .out h1 h2
end Go.Ev
