import Derived.Test.YthopphfehgdocaaGreatDoorGen4
set_option linter.unusedSimpArgs false
set_option linter.unusedVariables false
namespace Go.Ev
open Go.RowKit
variable {cx : Cx}
def Globs (cx : Cx) (E : Env) : Prop := ∀ g, g < cx.ng → ∃ pl, E g = some pl ∧ pl.cb = g ∧ pl.sh = 0
theorem Globs.mono {E E' : Env} (h : Globs cx E) (le : E.le E') : Globs cx E' := fun g hg => by obtain ⟨pl, a, b⟩ := h g hg; exact ⟨pl, le _ _ a, b⟩
def VJ (E : Env) (v v' : Value) : Prop := isJ v = false → VR E v v'
theorem VJ.mono {E E' : Env} {v v' : Value} (h : VJ E v v') (le : E.le E') : VJ E' v v' := fun k => (h k).mono le
theorem VJ.of {E : Env} {v v' : Value} (h : VR E v v') : VJ E v v' := fun _ => h
theorem liveOp_tmp {tm : T Value} {t : Tmp} : liveOp tm (.tmp t) = true ↔ isJ (St.eval tm (.tmp t)) = false := by
 unfold liveOp
 cases h : isJ (St.eval tm (.tmp t)) <;> simp [h]
structure TR (E : Env) (nt : Nat) (tm : T Value) (tmps : Array Value) : Prop where
 val : ∀ t, VJ E (St.eval tm (.tmp t)) (tmps.getD t undef)
 size : tmps.size = nt
theorem TR.mono {E E' : Env} {nt : Nat} {tm : T Value} {tmps : Array Value} (h : TR E nt tm tmps) (le : E.le E') : TR E' nt tm tmps := ⟨fun t => (h.val t).mono le, h.size⟩
structure Fresh (cx : Cx) (E : Env) (H : Hp) (nx : Nat) : Prop where
 env : ∀ i, nx ≤ i → E i = none
 heap : ∀ i, nx ≤ i → H.get i = none
 lo : cx.lo ≤ nx
theorem eval_rel {E : Env} {nt : Nat} {tm : T Value} {a : Act} (h : TR E nt tm a.tmps) (hg : Globs cx E) {x : Operand} (hx : operandOk cx x = true) (hl : liveOp tm x = true) : VR E (St.eval tm x) (a.eval x) := by
 cases x with
 | tmp t => exact h.val t (liveOp_tmp.1 hl)
 | const v => exact VR.of_shut E hx
 | global g =>
  obtain ⟨pl, e, hb, hs⟩ := hg g (Nat.le_of_ble_eq_true hx)
  have := VR.ptr (E := E) g 0 pl e
  rw [hb, hs] at this
  exact this
 | func f => exact .shut 2 _ rfl
theorem evals_rel {E : Env} {nt : Nat} {tm : T Value} {a : Act} (h : TR E nt tm a.tmps) (hg : Globs cx E) {o : Oper} (ho : constsOk cx tm o = true) : ∀ x ∈ o.op.operands.toList, VR E (St.eval tm x) (a.eval x) :=
 fun x hx => by
  have := List.all_eq_true.1 ho x hx
  rw [Bool.and_eq_true] at this
  exact eval_rel h hg this.1 this.2
theorem putT_rel {E : Env} {nt : Nat} {tm tm' : T Value} {a : Act} (h : TR E nt tm a.tmps) {dst : Option Tmp} {v v' : Value} (hv : VR E v v') (hp : putT tm nt dst v = some tm') : TR E nt tm' (a.put dst v').tmps := by
 unfold putT at hp
 cases dst with
 | none => cases hp; exact h
 | some d =>
  simp only at hp
  cases hb : Nat.blt d nt with
  | false => rw [hb] at hp; cases hp
  | true =>
   rw [hb] at hp
   cases hp
   have hd : d < nt := Nat.le_of_ble_eq_true hb
   refine ⟨fun t => ?_, by simp only [Act.put, Array.size_setIfInBounds]; exact h.size⟩
   simp only [Act.put, St.eval]
   rw [T.get_set]
   by_cases e : t = d
   ·subst e
    have : (a.tmps.setIfInBounds t v').getD t undef = v' := by
     have ht : t < a.tmps.size := by rw [h.size]; exact hd
     simp [Array.getD, ht]
    rw [this]
    simp only [if_true]
    exact VJ.of hv
   ·have : (a.tmps.setIfInBounds d v').getD t undef = a.tmps.getD t undef := by
     rw [Array.getD_eq_getD_getElem?, Array.getD_eq_getD_getElem?, Array.getElem?_setIfInBounds, if_neg (Ne.symm e)]
    rw [this]
    simp only [e, if_false]
    exact h.val t
theorem yieldedT_eq' {E : Env} {tm : T Value} {tmps : Array Value} (ops : Array Oper) (j : Nat) (h : ∀ d, (ops[j]?).bind (·.dst) = some d → VR E (St.eval tm (.tmp d)) (tmps.getD d undef)) : yieldedT ops tm j = yielded ops tmps j := by
 unfold yieldedT yielded
 cases hj : ops[j]? with
 | none => rfl
 | some o =>
  simp only [Option.bind_some]
  cases hd : o.dst with
  | none => rfl
  | some d =>
   simp only [Option.bind_some]
   have hv := h d (by rw [hj]; exact hd)
   simp only [St.eval] at hv
   rw [Array.getD_eq_getD_getElem?] at hv
   cases hc : tmps[d]? with
   | none =>
    rw [hc] at hv
    simp only [Option.getD_none] at hv
    cases hg : tm.get d with
    | none => rfl
    | some v =>
     rw [hg] at hv
     simp only at hv
     cases v with
     | bool b => have := hv.shut_eq 1 rfl; cases this
     | _ => rfl
   | some c =>
    rw [hc] at hv
    simp only [Option.getD_some] at hv
    cases hg : tm.get d with
    | none =>
     rw [hg] at hv
     have := hv.shut_eq 1 rfl
     subst this
     rfl
    | some v =>
     rw [hg] at hv
     simp only at hv
     cases v with
     | bool b => have := hv.shut_eq 1 rfl; subst this; rfl
     | _ =>
      cases hv with
      | shut d _ k => rfl
      | _ => rfl
theorem wantedT_eq' {E : Env} {tm : T Value} {tmps : Array Value} (o : Oper) (ops : Array Oper) (hgd : guardOk ops tm o = true) (h : ∀ d ∈ readsOf ops o, VJ E (St.eval tm (.tmp d)) (tmps.getD d undef)) : wantedT o ops tm = Region.wanted o (yielded ops tmps) := by
 unfold wantedT Region.wanted
 cases hg : o.guard with
 | none => rfl
 | some p =>
  obtain ⟨j, want⟩ := p
  simp only
  rw [yieldedT_eq' ops j (fun d hd => h d (by
   unfold readsOf
   rw [hg]
   simp only [List.mem_append]
   right
   rw [hd]
   simp) (by
   unfold guardOk at hgd
   rw [hg] at hgd
   simp only at hgd
   cases hj : ops[j]? with
   | none => rw [hj] at hd; cases hd
   | some p =>
    rw [hj] at hd hgd
    simp only [Option.bind_some] at hd
    simp only [hd] at hgd
    exact liveOp_tmp.1 hgd))]
  cases yielded ops tmps j with
  | none => rfl
  | some b => cases b <;> cases want <;> rfl
theorem wantedT_eq {E : Env} {nt : Nat} {tm : T Value} {tmps : Array Value} (h : TR E nt tm tmps) (o : Oper) (ops : Array Oper) (hgd : guardOk ops tm o = true) : wantedT o ops tm = Region.wanted o (yielded ops tmps) :=
 wantedT_eq' o ops hgd (fun d _ => h.val d)
structure Done (cx : Cx) (B : Nat) (E : Env) (nx : Nat) (w : World) (v : Value) (H' : Hp) (nx' : Nat) (v' : Value) (E' : Env) (w' : World) : Prop where
 val : VR E' v v'
 le : E.le E'
 keep : ∀ i, i < nx → E' i = E i
 hr : HR B cx.lo E' H' w'
 below : Below B w w'
 fresh : Fresh cx E' H' nx'
 up : nx ≤ nx'
def Sound (cx : Cx) (K : Caller) : Prop :=
 ∀ f args H nx v H' nx', K f args H nx = some (v, H', nx') → ∀ B E w args', cx.Wp B w → HR B cx.lo E H w → Fresh cx E H nx → Globs cx E → AR E args args' →
  Calls cx.P f args' w fun e w' => ∃ v' E', e = .returned v' ∧ Done cx B E nx w v H' nx' v' E' w'
theorem Step.done {B : Nat} {E E' : Env} {w w' : World} {nx : Nat} {r : ANext} {H H' : Hp} {x : Next} (hf : Fresh cx E H nx) (h : Step B cx.lo E w nx (r, H') E' w' x) : Fresh cx E' H' (nx + 1) where
 env i hi := by rw [h.off i (by omega)]; exact hf.env i (by omega)
 heap i hi := by
  cases hg : H'.get i with
  | none => rfl
  | some o =>
   obtain ⟨pl, e, _⟩ := h.hr.dat i o hg
   rw [h.off i (by omega), hf.env i (by omega)] at e
   cases e
 lo := by have := hf.lo; omega
theorem evFull_sim (hc : CxOk cx) {K : Caller} (hK : Sound cx K) {B : Nat} {E : Env} {H : Hp} {nx : Nat} {ρ : Operand → Value} {a : Act} {w : World} {o : Oper} {v : Value} {H' : Hp} {nx' : Nat}
  (hW : cx.Wp B w) (hρ : ∀ x ∈ o.op.operands.toList, VR E (ρ x) (a.eval x)) (hr : HR B cx.lo E H w) (hf : Fresh cx E H nx) (hg : Globs cx E) (h : evFull cx K ρ o H nx = some (v, H', nx'))
  {next : Act → World → Prop} {Q : Exit → Act → World → Prop} (hn : ∀ v' E' w', Done cx B E nx w v H' nx' v' E' w' → next (a.put o.dst v') w') : o.wp cx.P a w next Q := by
 unfold evFull at h
 cases he : evOp cx (ρ) o nx H with
 | none => rw [he] at h; cases h
 | some res =>
  rw [he] at h
  have hid : (match cat o.op with | .effect => True | _ => False) → ∀ c oc, H.get c = some oc → c < nx := fun _ c oc q => by
   rcases Nat.lt_or_ge c nx with k | k
   ·exact k
   ·rw [hf.heap c k] at q; cases q
  obtain ⟨E', w', x, hrun, st⟩ := evOp_sim hc hr (hf.env nx (Nat.le_refl _)) (hf.heap nx (Nat.le_refl _)) hid hf.lo hρ he
  obtain ⟨r, H1⟩ := res
  have hfr := st.done hf
  unfold Oper.wp
  rw [hrun]
  cases r with
  | val u =>
   cases h
   cases x with
   | value v' =>
    simp only [Oper.upon_value]
    exact hn v' E' w' ⟨st.nr, st.le, fun i hi => st.off i (by omega), st.hr, st.below, hfr, by show nx ≤ nx + 1; omega⟩
   | _ => exact st.nr.elim
  | skip =>
   cases h
   cases x with
   | skip =>
    simp only [Oper.upon_skip]
    exact hn undef E' w' ⟨VR.undef E', st.le, fun i hi => st.off i (by omega), st.hr, st.below, hfr, by show nx ≤ nx + 1; omega⟩
   | _ => exact st.nr.elim
  | enter f args =>
   simp only at h
   cases x with
   | enter f' args' =>
    obtain ⟨rfl, har⟩ := st.nr
    simp only [Oper.upon_enter]
    refine (hK f args H1 (nx + 1) v H' nx' h B E' w' args' (hc.wp _ _ _ st.below hW) st.hr hfr (hg.mono st.le) har).mono ?_
    rintro e w2 ⟨v', E2, rfl, D⟩
    exact hn v' E2 w2 ⟨D.val, Env.le_trans st.le D.le, fun i hi => by rw [D.keep i (by omega), st.off i (by omega)], D.hr, st.below.trans D.below, D.fresh, by have := D.up; omega⟩
   | _ => exact st.nr.elim
theorem evFull_sound (hc : CxOk cx) {K : Caller} (hK : Sound cx K) {B : Nat} {E : Env} {H : Hp} {nx : Nat} {nt : Nat} {tm : T Value} {a : Act} {w : World} {o : Oper} {v : Value} {H' : Hp} {nx' : Nat}
  (hW : cx.Wp B w) (ht : TR E nt tm a.tmps) (hr : HR B cx.lo E H w) (hf : Fresh cx E H nx) (hg : Globs cx E) (ho : constsOk cx tm o = true) (h : evFull cx K (St.eval tm) o H nx = some (v, H', nx'))
  {next : Act → World → Prop} {Q : Exit → Act → World → Prop} (hn : ∀ v' E' w', Done cx B E nx w v H' nx' v' E' w' → next (a.put o.dst v') w') : o.wp cx.P a w next Q :=
 evFull_sim hc hK hW (evals_rel ht hg ho) hr hf hg h hn
structure SR (cx : Cx) (B : Nat) (E : Env) (nt : Nat) (s : St) (a : Act) (w : World) : Prop where
 tm : TR E nt s.tm a.tmps
 defers : a.defers = []
 hr : HR B cx.lo E s.H w
 fresh : Fresh cx E s.H s.nx
 glob : Globs cx E
 wp : cx.Wp B w
structure Later (cx : Cx) (B : Nat) (E : Env) (nx : Nat) (w : World) (nt : Nat) (s' : St) (E' : Env) (a' : Act) (w' : World) : Prop where
 st : SR cx B E' nt s' a' w'
 le : E.le E'
 keep : ∀ i, i < nx → E' i = E i
 below : Below B w w'
 up : nx ≤ s'.nx
theorem Later.trans {B : Nat} {E E1 E2 : Env} {nx nt : Nat} {w w1 w2 : World} {s1 s2 : St} {a1 a2 : Act} (h : Later cx B E nx w nt s1 E1 a1 w1) (k : Later cx B E1 s1.nx w1 nt s2 E2 a2 w2) : Later cx B E nx w nt s2 E2 a2 w2 :=
 ⟨k.st, Env.le_trans h.le k.le, fun i hi => by rw [k.keep i (Nat.lt_of_lt_of_le hi h.up), h.keep i hi], h.below.trans k.below, Nat.le_trans h.up k.up⟩
theorem Later.refl {B : Nat} {E : Env} {nt : Nat} {w : World} {s : St} {a : Act} (h : SR cx B E nt s a w) : Later cx B E s.nx w nt s E a w :=
 ⟨h, Env.le_refl E, fun _ _ => rfl, Below.refl _ _, Nat.le_refl _⟩
theorem evOps_sound (hc : CxOk cx) {K : Caller} (hK : Sound cx K) {ops : Array Oper} {nt : Nat} {Q : Exit → Act → World → Prop} {B : Nat} : ∀ (l : List Oper) (k : Nat) (s s' : St) (E : Env) (a : Act) (w : World),
  (∀ j o, l[j]? = some o → ops[k + j]? = some o) → SR cx B E nt s a w → evOps cx K ops nt l s = some s' → (∀ E' a' w', Later cx B E s.nx w nt s' E' a' w' → Q .normal a' w') →
  wpOps cx.P ops Q (List.range' k l.length) a w
 | [], k, s, s', E, a, w, _, hs, h, hQ => by
  simp only [evOps] at h
  cases h
  exact hQ E a w (Later.refl hs)
 | o :: l, k, s, s', E, a, w, hl, hs, h, hQ => by
  have ho : ops[k]? = some o := by simpa using hl 0 o rfl
  have hl' : ∀ j p, l[j]? = some p → ops[k + 1 + j]? = some p := fun j p q => by
   have := hl (j + 1) p (by simpa using q)
   rwa [show k + (j + 1) = k + 1 + j by omega] at this
  simp only [List.length_cons, List.range'_succ, wpOps, ho]
  simp only [evOps] at h
  cases hgd : guardOk ops s.tm o with
  | false => rw [hgd] at h; cases h
  | true =>
  rw [hgd] at h
  simp only at h
  rw [wantedT_eq hs.tm o ops hgd] at h
  cases hw : Region.wanted o (yielded ops a.tmps) with
  | false =>
   rw [hw] at h
   simp only at h
   simp only [Bool.false_eq_true, if_false]
   cases hp : putT s.tm nt o.dst undef with
   | none => rw [hp] at h; cases h
   | some tm =>
    rw [hp] at h
    have hs1 : SR cx B E nt { s with tm } (a.put o.dst undef) w := ⟨putT_rel hs.tm (VR.undef E) hp, by cases hd : o.dst <;> simp [Act.put, hs.defers], hs.hr, hs.fresh, hs.glob, hs.wp⟩
    exact evOps_sound hc hK l (k + 1) _ s' E _ w hl' hs1 h hQ
  | true =>
   rw [hw] at h
   simp only at h
   simp only [if_true]
   left
   cases hco : constsOk cx s.tm o with
   | false => rw [hco] at h; cases h
   | true =>
    rw [hco] at h
    simp only at h
    cases hf : evFull cx K (St.eval s.tm) o s.H s.nx with
    | none => rw [hf] at h; cases h
    | some p =>
     obtain ⟨v, H1, nx1⟩ := p
     rw [hf] at h
     simp only at h
     cases hp : putT s.tm nt o.dst v with
     | none => rw [hp] at h; cases h
     | some tm =>
      rw [hp] at h
      simp only at h
      refine evFull_sound hc hK hs.wp hs.tm hs.hr hs.fresh hs.glob hco hf (fun v' E1 w1 D => ?_)
      have hs1 : SR cx B E1 nt { tm, H := H1, nx := nx1 } (a.put o.dst v') w1 :=
       ⟨putT_rel (hs.tm.mono D.le) D.val hp, by cases hd : o.dst <;> simp [Act.put, hs.defers], D.hr, D.fresh, hs.glob.mono D.le, hc.wp _ _ _ D.below hs.wp⟩
      have L1 : Later cx B E s.nx w nt { tm, H := H1, nx := nx1 } E1 (a.put o.dst v') w1 := ⟨hs1, D.le, D.keep, D.below, D.up⟩
      exact evOps_sound hc hK l (k + 1) _ s' E1 _ w1 hl' hs1 h (fun E2 a2 w2 L2 => hQ E2 a2 w2 (L1.trans L2))
variable {cx : Cx}
def AExit.to : AExit → Exit
 | .normal => .normal
 | .exit id => .exit id
 | .ret => .ret
def DrawSound (cx : Cx) (K : Caller) : Prop :=
 ∀ (ops : Array Oper) (nt : Nat) (Q : Exit → Act → World → Prop) (B : Nat) (s s' : St) (E : Env) (a : Act) (w : World), SR cx B E nt s a w → evDraw cx K ops nt s = some s' →
  (∀ E' a' w', Later cx B E s.nx w nt s' E' a' w' → Q .normal a' w') → ∀ id, (Code.region id ops true).wp cx.P Q a w
theorem evCode_sound (hc : CxOk cx) {K : Caller} (hK : Sound cx K) (hD : DrawSound cx K) {nt : Nat} {B : Nat} : ∀ (n : Nat),
  (∀ (c : Code) (s s' : St) (e : AExit) (E : Env) (a : Act) (w : World) (Q : Exit → Act → World → Prop), SR cx B E nt s a w → evCode cx K nt n c s = some (e, s') →
   (∀ E' a' w', Later cx B E s.nx w nt s' E' a' w' → Q e.to a' w') → c.wp cx.P Q a w) ∧
  (∀ (b : Code) (s s' : St) (e : AExit) (E : Env) (a : Act) (w : World) (Q : Exit → Act → World → Prop), SR cx B E nt s a w → evCode cx K nt n (.loop b) s = some (e, s') →
   (∀ E' a' w', Later cx B E s.nx w nt s' E' a' w' → Q e.to a' w') → Code.rounds cx.P b Q n a w)
 | 0 => ⟨fun c s s' e E a w Q _ h => by simp [evCode] at h, fun c s s' e E a w Q _ h => by simp [evCode] at h⟩
 | n + 1 => by
  obtain ⟨ihA, ihB⟩ := evCode_sound hc hK hD (nt := nt) (B := B) n
  have rounds : ∀ (b : Code) (s s' : St) (e : AExit) (E : Env) (a : Act) (w : World) (Q : Exit → Act → World → Prop), SR cx B E nt s a w → evCode cx K nt (n + 1) (.loop b) s = some (e, s') →
   (∀ E' a' w', Later cx B E s.nx w nt s' E' a' w' → Q e.to a' w') → Code.rounds cx.P b Q (n + 1) a w := by
   intro b s s' e E a w Q hs h hQ
   rw [rounds_succ]
   simp only [evCode] at h
   cases hb : evCode cx K nt n b s with
   | none => rw [hb] at h; cases h
   | some p =>
    obtain ⟨e1, s1⟩ := p
    rw [hb] at h
    refine ihA b s s1 e1 E a w _ hs hb (fun E1 a1 w1 L1 => ?_)
    cases e1 with
    | normal => exact ihB b s1 s' e E1 a1 w1 Q L1.st h (fun E2 a2 w2 L2 => hQ E2 a2 w2 (L1.trans L2))
    | exit id => cases h; exact hQ E1 a1 w1 L1
    | ret => cases h; exact hQ E1 a1 w1 L1
  refine ⟨fun c s s' e E a w Q hs h hQ => ?_, rounds⟩
  cases c with
  | skip => simp only [evCode] at h; cases h; exact wp_skip (hQ E a w (Later.refl hs))
  | label l => simp only [evCode] at h; cases h; exact wp_label (hQ E a w (Later.refl hs))
  | region id ops draw =>
   cases draw with
   | false =>
    simp only [evCode] at h
    cases ho : evOps cx K ops nt ops.toList s with
    | none => rw [ho] at h; cases h
    | some s1 =>
     rw [ho] at h
     cases h
     refine wp_region ?_
     have := evOps_sound hc hK (ops := ops) (Q := Q) ops.toList 0 s _ E a w (fun j o q => by simpa using q) hs ho hQ
     simpa [List.range_eq_range'] using this
   | true =>
    simp only [evCode] at h
    cases ho : evDraw cx K ops nt s with
    | none => rw [ho] at h; cases h
    | some s1 =>
     rw [ho] at h
     cases h
     exact hD ops nt Q B s _ E a w hs ho hQ id
  | seq x y =>
   simp only [evCode] at h
   cases hb : evCode cx K nt n x s with
   | none => rw [hb] at h; cases h
   | some p =>
    obtain ⟨e1, s1⟩ := p
    rw [hb] at h
    refine wp_seq (ihA x s s1 e1 E a w _ hs hb (fun E1 a1 w1 L1 => ?_))
    cases e1 with
    | normal => exact ihA y s1 s' e E1 a1 w1 Q L1.st h (fun E2 a2 w2 L2 => hQ E2 a2 w2 (L1.trans L2))
    | exit id => cases h; exact hQ E1 a1 w1 L1
    | ret => cases h; exact hQ E1 a1 w1 L1
  | cond x t f =>
   simp only [evCode] at h
   cases hx : operandOk cx x && liveOp s.tm x with
   | false => rw [hx] at h; cases h
   | true =>
    rw [hx] at h
    rw [Bool.and_eq_true] at hx
    have hv := eval_rel hs.tm hs.glob hx.1 hx.2
    simp only at h
    split at h
    ·rename_i b hb
     rw [hb] at hv
     have hb' := hv.shut_eq 1 rfl
     exact wp_cond hb' (ihA _ s s' e E a w Q hs h hQ)
    ·cases h
  | block id b =>
   simp only [evCode] at h
   cases hb : evCode cx K nt n b s with
   | none => rw [hb] at h; cases h
   | some p =>
    obtain ⟨e1, s1⟩ := p
    rw [hb] at h
    refine wp_block (ihA b s s1 e1 E a w _ hs hb (fun E1 a1 w1 L1 => ?_))
    cases e1 with
    | normal => cases h; exact hQ E1 a1 w1 L1
    | exit k =>
     simp only at h
     by_cases hk : k = id
     ·rw [if_pos hk] at h
      cases h
      simp only [AExit.to, Exit.inBlock, hk, if_true]
      exact hQ E1 a1 w1 L1
     ·rw [if_neg hk] at h
      cases h
      simp only [AExit.to, Exit.inBlock, hk, if_false]
      exact hQ E1 a1 w1 L1
    | ret => cases h; exact hQ E1 a1 w1 L1
  | loop b => exact wp_loop_rounds (n + 1) (rounds b s s' e E a w Q hs h hQ)
  | exit id => simp only [evCode] at h; cases h; exact wp_exit (hQ E a w (Later.refl hs))
  | ret => simp only [evCode] at h; cases h; exact wp_ret (hQ E a w (Later.refl hs))
  | rangeFunc f ps as b => simp [evCode] at h
  | scope b => simp [evCode] at h
  | goto l => simp [evCode] at h
  | refuse why => simp [evCode] at h
theorem evResults_sound (hc : CxOk cx) {B : Nat} {E : Env} {nt : Nat} {tm : T Value} {tmps : Array Value} {H : Hp} {w : World} (ht : TR E nt tm tmps) (hr : HR B cx.lo E H w) : ∀ (l : List ResultVar) (vs : List Value), evResults cx tm H l = some vs →
  ∃ vs', LR E vs vs' ∧ (l.mapM fun
   | .tmp t => pure (tmps.getD t undef)
   | .cell a t => do loadVar t (← asAddr (tmps.getD a undef)) : Sem (List Value)).run cx.P w = .ok vs' w
 | [], vs, h => by simp only [evResults] at h; cases h; exact ⟨[], LR.nil E, rfl⟩
 | r :: l, vs, h => by
  simp only [evResults] at h
  split at h
  ·cases h
  ·rename_i v hv
   cases hl : evResults cx tm H l with
   | none => rw [hl] at h; cases h
   | some vs0 =>
    rw [hl] at h
    cases h
    obtain ⟨vs', q1, q2⟩ := evResults_sound hc ht hr l vs0 hl
    cases r with
    | tmp t =>
     simp only at hv
     cases hlv : liveOp tm (.tmp t) with
     | false => rw [hlv] at hv; cases hv
     | true =>
     rw [hlv] at hv
     cases hv
     refine ⟨tmps.getD t undef :: vs', LR.cons (ht.val t (liveOp_tmp.1 hlv)) q1, ?_⟩
     simp only [List.mapM_cons, Sem.run_bind, Sem.run_pure, Result.andThen_ok, q2]
    | cell a t =>
     simp only at hv
     split at hv
     ·rename_i u H2 hu
      cases hv
      obtain ⟨ad, v', e1, e2, e3, _⟩ := loadVar_spec hc hr (ht.val a (by
       cases hj : isJ (St.eval tm (.tmp a)) with
       | false => rfl
       | true =>
        exfalso
        unfold aLoad at hu
        cases hva : St.eval tm (.tmp a) with
        | chan r => rw [hva] at hu; simp [asPtr] at hu
        | _ => rw [hva] at hj; simp [isJ] at hj)) hu
      refine ⟨v' :: vs', LR.cons e3 q1, ?_⟩
      have e0 : (asAddr (tmps.getD a undef)).run cx.P w = .ok ad w := by rw [e1]; rfl
      simp only [List.mapM_cons, Sem.run_bind, Sem.run_pure, Result.andThen_ok, e0, e2, q2]
     ·cases hv
theorem oneOf_rel {E : Env} {vs vs' : List Value} (h : LR E vs vs') : VR E (oneOf vs) (if h : vs'.toArray.size = 1 then vs'.toArray[0] else .tuple vs'.toArray) := by
 match vs, vs', h with
 | [], [], h => exact .shut 2 _ rfl
 | [v], [v'], h => exact h.head
 | a :: b :: l, a' :: b' :: l', h =>
  simp only [oneOf]
  rw [dif_neg (by simp)]
  exact .tuple _ _ h.array.1 h.array.2
 | [], _ :: _, h => have := h.1; simp at this
 | _ :: _, [], h => have := h.1; simp at this
 | [_], _ :: _ :: _, h => have := h.1; simp at this
 | _ :: _ :: _, [_], h => have := h.1; simp at this
def IntrSound (cx : Cx) : Prop := ∀ f g, cx.intr f = some g → Sound cx (fun f' args H nx => if f' = f then g args H nx else none)
theorem evFunc_sound (hc : CxOk cx) (hI : IntrSound cx) {M : Caller → Prop} (hM : ∀ n, M (evFunc cx n)) (hD : ∀ K, Sound cx K → M K → DrawSound cx K) : ∀ n, Sound cx (evFunc cx n)
 | 0 => fun f args H nx v H' nx' h => by simp [evFunc] at h
 | n + 1 => by
  have ih := evFunc_sound hc hI hM hD n
  intro f args H nx v H' nx' h B E w args' hW hr hf hg har
  simp only [evFunc] at h
  cases hi : cx.intr f with
  | some g =>
   rw [hi] at h
   exact hI f g hi f args H nx v H' nx' (by simp only [if_true]; exact h) B E w args' hW hr hf hg har
  | none =>
   rw [hi] at h
   simp only at h
   cases hb : cx.body f with
   | none => rw [hb] at h; cases h
   | some fn =>
    rw [hb] at h
    simp only at h
    cases hbd : fn.body with
    | none => rw [hbd] at h; cases h
    | some c =>
     rw [hbd] at h
     simp only at h
     have hfn := hc.body _ _ hb
     refine calls_of_wp hfn hbd ?_
     have hs0 : SR cx B E (max args.size fn.ntmps) { tm := T.setList (T.room (Nat.add (Nat.log2 (max args.size fn.ntmps)) 1)) 0 args.toList, H, nx } { tmps := args' ++ Array.replicate (fn.ntmps - args'.size) undef, defers := [] } w := by
      refine ⟨⟨fun t => ?_, by simp [har.1]; omega⟩, rfl, hr, hf, hg, hW⟩
      simp only [St.eval]
      rw [T.get_setList, Array.getD_eq_getD_getElem?]
      by_cases ht : t < args.size
      ·rw [if_pos ⟨Nat.zero_le _, by simpa using ht⟩, Array.getElem?_append_left (by rw [← har.1]; exact ht)]
       have h1 : t < args'.size := by rw [← har.1]; exact ht
       simp only [Nat.sub_zero, Array.getElem?_toList, Array.getElem?_eq_getElem ht, Array.getElem?_eq_getElem h1, Option.getD_some]
       exact VJ.of <| har.2 t _ _ (Array.getElem?_eq_getElem ht) (Array.getElem?_eq_getElem h1)
      ·have ht' : args.toList.length ≤ t := by simpa using Nat.le_of_not_lt ht
       have ht2 : args'.size ≤ t := by rw [← har.1]; exact Nat.le_of_not_lt ht
       rw [if_neg (fun q => Nat.lt_irrefl _ (Nat.lt_of_lt_of_le q.2 (by rw [Nat.zero_add]; exact ht'))), T.get_room]
       simp only
       have hund : ((args' ++ Array.replicate (fn.ntmps - args'.size) undef)[t]?).getD undef = undef := by
        rw [Array.getElem?_append_right ht2]
        cases hq : (Array.replicate (fn.ntmps - args'.size) undef)[t - args'.size]? with
        | none => rfl
        | some x =>
         rw [Array.getElem?_replicate] at hq
         split at hq
         ·cases hq; rfl
         ·cases hq
       rw [hund]
       exact VJ.of (VR.undef E)
     cases he : evCode cx (evFunc cx n) (max args.size fn.ntmps) n c { tm := T.setList (T.room (Nat.add (Nat.log2 (max args.size fn.ntmps)) 1)) 0 args.toList, H, nx } with
     | none => rw [he] at h; cases h
     | some p =>
      obtain ⟨e, s⟩ := p
      rw [he] at h
      have fin : ∀ l, evResults cx s.tm s.H fn.results.toList = some l → some (oneOf l, s.H, s.nx) = some (v, H', nx') → ∀ (E' : Env) (a' : Act) (w' : World), Later cx B E nx w (max args.size fn.ntmps) s E' a' w' →
        a'.defers = [] ∧ ∃ v', (results fn a'.tmps).run cx.P w' = .ok v' w' ∧ ∃ v'' E', Ending.returned v' = .returned v'' ∧ Done cx B E nx w v H' nx' v'' E' w' := by
       intro l hl hv E' a' w' L
       cases hv
       obtain ⟨vs', q1, q2⟩ := evResults_sound hc L.st.tm L.st.hr _ _ hl
       refine ⟨L.st.defers, _, ?_, _, E', rfl, ⟨oneOf_rel q1, L.le, L.keep, L.st.hr, L.below, L.st.fresh, L.up⟩⟩
       unfold results
       rw [Array.mapM_eq_mapM_toList]
       rw [Sem.run_bind, Sem.run_map]
       have step : ∀ r : Result (List Value), r = .ok vs' w' → ((r.andThen fun a w' => Result.ok a.toArray w').andThen fun a w' => Sem.run cx.P (pure (if h : a.size = 1 then a[0] else Value.tuple a)) w') = Result.ok (if h : vs'.toArray.size = 1 then vs'.toArray[0] else Value.tuple vs'.toArray) w' := by
        intro r hr
        rw [hr]
        rfl
       exact step _ q2
      cases e with
      | exit id => simp at h
      | normal =>
       simp only at h
       cases hl : evResults cx s.tm s.H fn.results.toList with
       | none => rw [hl] at h; cases h
       | some l =>
        rw [hl] at h
        exact (evCode_sound hc ih (hD _ ih (hM n)) n).1 c _ s .normal E _ w _ hs0 he (fun E' a' w' L => fin l hl h E' a' w' L)
      | ret =>
       simp only at h
       cases hl : evResults cx s.tm s.H fn.results.toList with
       | none => rw [hl] at h; cases h
       | some l =>
        rw [hl] at h
        exact (evCode_sound hc ih (hD _ ih (hM n)) n).1 c _ s .ret E _ w _ hs0 he (fun E' a' w' L => fin l hl h E' a' w' L)
variable {cx : Cx}
def Ov (H K : Hp) (X : Nat → Option AObj) : Prop := ∀ i, K.get i = (H.get i).or (X i)
theorem Ov.get {H K : Hp} {X : Nat → Option AObj} (h : Ov H K X) {i : Nat} {o : AObj} (p : H.get i = some o) : K.get i = some o := by rw [h i, p]; rfl
theorem Ov.set {H K : Hp} {X : Nat → Option AObj} (h : Ov H K X) (i : Nat) (o : AObj) : Ov (H.set i o) (K.set i o) X := by
 intro j
 rw [T.get_set, T.get_set]
 by_cases e : j = i
 ·rw [if_pos e, if_pos e]; rfl
 ·rw [if_neg e, if_neg e]; exact h j
def Kept (H H' : Hp) : Prop := ∀ i, H'.get i = none → H.get i = none
theorem Kept.refl (H : Hp) : Kept H H := fun _ h => h
theorem Kept.trans {H H1 H2 : Hp} (h : Kept H H1) (k : Kept H1 H2) : Kept H H2 := fun i q => h i (k i q)
theorem Kept.set (H : Hp) (i : Nat) (o : AObj) : Kept H (H.set i o) := fun j q => by
 rw [T.get_set] at q
 split at q
 ·cases q
 ·exact q
def MonoH (F : Hp → Option Hp) : Prop := ∀ H H' K X, F H = some H' → Ov H K X → Kept H H' ∧ ∃ K', F K = some K' ∧ Ov H' K' X
def MonoV {α : Type} (F : Hp → Option α) : Prop := ∀ H v K X, F H = some v → Ov H K X → F K = some v
def MonoR (F : Hp → Res) : Prop := ∀ H r H' K X, F H = some (r, H') → Ov H K X → Kept H H' ∧ ∃ K', F K = some (r, K') ∧ Ov H' K' X
theorem MonoR.pure (r : Hp → Option ANext) (hr : ∀ H K v, r H = some v → r K = some v) : MonoR fun H => match r H with | none => none | some v => some (v, H) := by
 intro H v H' K X h ho
 simp only at h
 cases e : r H with
 | none => rw [e] at h; cases h
 | some u =>
  rw [e] at h; cases h
  exact ⟨Kept.refl _, K, by simp only [hr H K _ e], ho⟩
theorem loadN_mono (b o n : Nat) : MonoV fun H => loadN H b o n := by
 intro H v K X h ho
 simp only [loadN] at h ⊢
 cases hg : H.get b with
 | none => rw [hg] at h; cases h
 | some ob => rw [hg] at h; rw [ho.get hg]; exact h
theorem loadOld_mono (b o k : Nat) : MonoV fun H => loadOld H b o k := by
 intro H v K X h ho
 simp only [loadOld] at h ⊢
 split at h
 ·exact h
 ·exact loadN_mono b o k H v K X h ho
theorem getMap_mono (m : Nat) : MonoV fun H => getMap H m := by
 intro H v K X h ho
 simp only [getMap] at h ⊢
 cases hg : H.get m with
 | none => rw [hg] at h; cases h
 | some ob => rw [hg] at h; rw [ho.get hg]; exact h
theorem mapEs_mono (x : Value) : MonoV fun H => mapEs x H := by
 intro H v K X h ho
 simp only [mapEs] at h ⊢
 split at h
 ·exact h
 ·rename_i m
  cases hg : getMap H m with
  | none => rw [hg] at h; cases h
  | some p => rw [hg] at h; have q : getMap K m = some p := getMap_mono m H p K X hg ho; rw [q]; exact h
 ·cases h
theorem srcCells_mono (size n : Nat) (x : Value) : MonoV fun H => srcCells size n x H := by
 intro H v K X h ho
 simp only [srcCells] at h ⊢
 split at h
 ·exact h
 ·rename_i b o l c
  split at h
  ·exact h
  ·exact loadN_mono _ _ _ H v K X h ho
 ·exact h
 ·cases h
theorem sized_mono {H K : Hp} {X : Nat → Option AObj} {b n : Nat} (h : sized H b n = true) (ho : Ov H K X) : sized K b n = true := by
 unfold sized at h ⊢
 cases hg : H.get b with
 | none => rw [hg] at h; cases h
 | some ob => rw [hg] at h; rw [ho.get hg]; exact h
theorem exactly_mono {H K : Hp} {X : Nat → Option AObj} {b : Nat} (h : exactly H b = true) (ho : Ov H K X) : exactly K b = true := by
 unfold exactly at h ⊢
 cases hg : H.get b with
 | none => rw [hg] at h; cases h
 | some ob => rw [hg] at h; rw [ho.get hg]; exact h
theorem killAll_mono (keep : Nat → Bool) : ∀ l : List Nat, MonoH fun H => killAll H keep l
 | [], H, H', K, X, h, ho => by simp only [killAll] at h ⊢; cases h; exact ⟨Kept.refl _, K, rfl, ho⟩
 | m :: l, H, H', K, X, h, ho => by
  simp only [killAll] at h ⊢
  cases hk : keep m with
  | true => rw [hk] at h; exact killAll_mono keep l H H' K X h ho
  | false =>
   rw [hk] at h
   simp only at h ⊢
   cases hg : H.get m with
   | none => rw [hg] at h; cases h
   | some ob =>
    rw [hg] at h
    rw [ho.get hg]
    obtain ⟨k1, K', k2, k3⟩ := killAll_mono keep l _ H' _ X h (ho.set m { ob with dat := none })
    exact ⟨(Kept.set _ _ _).trans k1, K', k2, k3⟩
theorem alone_mono (b : Nat) (ob : AObj) : MonoH fun H => alone H b ob := by
 intro H H' K X h ho
 simp only [alone] at h ⊢
 cases hg : H.get ob.root with
 | none => rw [hg] at h; cases h
 | some ro =>
  rw [hg] at h
  rw [ho.get hg]
  simp only at h ⊢
  cases hs : isSingle b ro.kin with
  | true => rw [hs] at h; cases h; exact ⟨Kept.refl _, K, rfl, ho⟩
  | false =>
   rw [hs] at h
   simp only at h ⊢
   cases hk : killAll H (fun m => Nat.beq m b) ro.kin with
   | none => rw [hk] at h; cases h
   | some H2 =>
    rw [hk] at h
    obtain ⟨k1, K2, k2, k3⟩ := killAll_mono _ _ H H2 K X hk ho
    dsimp only at k2
    rw [k2]
    simp only at h ⊢
    cases hg2 : H2.get ob.root with
    | none => rw [hg2] at h; cases h
    | some ro2 =>
     rw [hg2] at h
     cases h
     rw [k3.get hg2]
     exact ⟨k1.trans (Kept.set _ _ _), _, rfl, k3.set _ _⟩
theorem setDat_mono (b : Nat) (d : AData) : MonoH fun H => setDat cx H b d := by
 intro H H' K X h ho
 simp only [setDat] at h ⊢
 cases hl : Nat.ble cx.lo b with
 | false => rw [hl] at h; cases h
 | true =>
  rw [hl] at h
  simp only at h ⊢
  cases hg : H.get b with
  | none => rw [hg] at h; cases h
  | some ob =>
   rw [hg] at h
   rw [ho.get hg]
   simp only at h ⊢
   cases hd : ob.dat with
   | none => rw [hd] at h; cases h
   | some d0 =>
    rw [hd] at h
    simp only at h ⊢
    cases ha : alone H b ob with
    | none => rw [ha] at h; cases h
    | some H3 =>
     rw [ha] at h
     obtain ⟨k1, K3, k2, k3⟩ := alone_mono b ob H H3 K X ha ho
     dsimp only at k2
     rw [k2]
     simp only at h ⊢
     cases hg3 : H3.get b with
     | none => rw [hg3] at h; cases h
     | some o3 =>
      rw [hg3] at h
      cases h
      rw [k3.get hg3]
      exact ⟨k1.trans (Kept.set _ _ _), _, rfl, k3.set _ _⟩
theorem storeN_mono (b o : Nat) (vs : List Value) : MonoH fun H => storeN cx H b o vs := by
 intro H H' K X h ho
 simp only [storeN] at h ⊢
 cases hg : H.get b with
 | none => rw [hg] at h; cases h
 | some ob =>
  rw [hg] at h
  rw [ho.get hg]
  simp only at h ⊢
  cases hd : ob.dat with
  | none => simp [hd] at h
  | some d =>
   cases d with
   | cells m cs =>
    simp only [hd] at h ⊢
    cases hle : (Nat.ble (Nat.add o vs.length) m && vs.all oneCell) with
    | false => rw [hle] at h; cases h
    | true => rw [hle] at h; exact setDat_mono b _ H H' K X h ho
   | _ => simp [hd] at h
theorem growKin_mono (r id : Nat) (keep : Nat → Bool) : MonoH fun H => growKin H r id keep := by
 intro H H' K X h ho
 simp only [growKin] at h ⊢
 cases hg : H.get r with
 | none => rw [hg] at h; cases h
 | some ro =>
  rw [hg] at h
  rw [ho.get hg]
  simp only at h ⊢
  cases hk : killAll H keep ro.kin with
  | none => rw [hk] at h; cases h
  | some H2 =>
   rw [hk] at h
   obtain ⟨k1, K2, k2, k3⟩ := killAll_mono _ _ H H2 K X hk ho
   dsimp only at k2
   rw [k2]
   simp only at h ⊢
   cases hg2 : H2.get r with
   | none => rw [hg2] at h; cases h
   | some ro2 =>
    rw [hg2] at h
    cases h
    rw [k3.get hg2]
    exact ⟨k1.trans (Kept.set _ _ _), _, rfl, k3.set _ _⟩
theorem skipTo_mono {F : Hp → Option Hp} (h : MonoH F) : MonoR fun H => skipTo (F H) := by
 intro H r H' K X e ho
 simp only [skipTo] at e ⊢
 cases hf : F H with
 | none => rw [hf] at e; cases e
 | some H1 =>
  rw [hf] at e; cases e
  obtain ⟨k1, K', k2, k3⟩ := h H H' K X hf ho
  exact ⟨k1, K', by rw [k2], k3⟩
theorem valTo_mono (v : Value) {F : Hp → Option Hp} (h : MonoH F) : MonoR fun H => valTo v (F H) := by
 intro H r H' K X e ho
 simp only [valTo] at e ⊢
 cases hf : F H with
 | none => rw [hf] at e; cases e
 | some H1 =>
  rw [hf] at e; cases e
  obtain ⟨k1, K', k2, k3⟩ := h H H' K X hf ho
  exact ⟨k1, K', by rw [k2], k3⟩
theorem rval_mono (v : Value) : MonoR fun H => rval v H := by
 intro H r H' K X e ho
 simp only [rval] at e ⊢
 cases e
 exact ⟨Kept.refl _, K, rfl, ho⟩
theorem MonoR.none : MonoR fun _ => none := fun H r H' K X e => by cases e
theorem MonoR.set (v : Value) (i : Nat) (o : AObj) : MonoR fun H => rval v (H.set i o) := by
 intro H r H' K X e ho
 simp only [rval] at e ⊢
 cases e
 exact ⟨Kept.set _ _ _, _, rfl, ho.set _ _⟩
variable {cx : Cx}
theorem MonoR.const {f : Hp → Res} (h : ∀ H, f H = Option.none) : MonoR f := fun H r H' K X e => by rw [h H] at e; cases e
theorem MonoR.bindW {α : Type} {F : Hp → Option α} (h : MonoV F) {G : Hp → Res} (k : α → Hp → Res) (h0 : ∀ H, F H = Option.none → G H = Option.none) (h1 : ∀ H a, F H = some a → G H = k a H) (hk : ∀ a, MonoR (k a)) : MonoR G := by
 intro H r H' K X e ho
 cases hf : F H with
 | none => rw [h0 H hf] at e; cases e
 | some a =>
  rw [h1 H a hf] at e
  rw [h1 K a (h H a K X hf ho)]
  exact hk a H r H' K X e ho
theorem MonoR.bindG {F : Hp → Option Hp} (h : MonoH F) {G : Hp → Res} (k : Hp → Res) (h0 : ∀ H, F H = Option.none → G H = Option.none) (h1 : ∀ H a, F H = some a → G H = k a) (hk : MonoR k) : MonoR G := by
 intro H r H' K X e ho
 cases hf : F H with
 | none => rw [h0 H hf] at e; cases e
 | some H1 =>
  obtain ⟨k1, K1, k2, k3⟩ := h H H1 K X hf ho
  rw [h1 H H1 hf] at e
  rw [h1 K K1 k2]
  obtain ⟨q1, K', q2, q3⟩ := hk H1 r H' K1 X e k3
  exact ⟨k1.trans q1, K', q2, q3⟩
theorem aLoad_mono (t : TypeId) (p : Value) : MonoR fun H => aLoad cx t p H := by
 unfold aLoad
 cases asPtr p with
 | none => exact MonoR.none
 | some bo =>
  obtain ⟨b, o⟩ := bo
  cases cx.agg t with
  | none => exact MonoR.none
  | some g =>
   cases g with
   | true =>
    cases cx.info t with
    | none => exact MonoR.none
    | some i =>
     simp only
     exact MonoR.bindW (loadN_mono b o i.size) (fun l H => rval (.agg l.toArray) H) (fun H q => by simp only [q]) (fun H a q => by simp only [q]) (fun l => rval_mono (.agg l.toArray))
   | false =>
    intro H r H' K X e ho
    simp only at e ⊢
    cases hl : loadN H b o 1 with
    | none => rw [hl] at e; cases e
    | some l =>
     have q : loadN K b o 1 = some l := loadN_mono b o 1 H l K X hl ho
     rw [hl] at e; rw [q]
     match l, e with
     | [v], e => exact rval_mono v H r H' K X e ho
theorem aStore_mono (t : TypeId) (p v : Value) : MonoR fun H => aStore cx t p v H := by
 unfold aStore
 cases asPtr p with
 | none => exact MonoR.none
 | some bo =>
  obtain ⟨b, o⟩ := bo
  cases cx.info t with
  | none => exact MonoR.none
  | some i =>
   simp only
   cases (Nat.beq v.cells.size i.size && v.cells.toList.all oneCell) with
   | false => exact MonoR.none
   | true => exact skipTo_mono (storeN_mono b o v.cells.toList)
theorem aAlloc_mono (elem : TypeId) (id : Nat) : MonoR fun H => aAlloc cx elem id H := by
 unfold aAlloc
 cases cx.info elem with
 | none => exact MonoR.none
 | some i =>
  simp only
  cases i.zero with
  | none => exact MonoR.none
  | some z => exact MonoR.set _ _ _
theorem aBox_mono (elem : TypeId) (v : Value) (id : Nat) : MonoR fun H => aBox cx elem v id H := by
 unfold aBox
 cases cx.info elem with
 | none => exact MonoR.none
 | some i => exact MonoR.set _ _ _
theorem aBuild_mono (t : TypeId) (parts : List (Nat × Value)) : MonoR fun H => aBuild cx t parts H := by
 unfold aBuild
 cases cx.info t with
 | none => exact MonoR.none
 | some i =>
  simp only
  cases i.zero with
  | none => exact MonoR.none
  | some z =>
   simp only
   cases cx.und t with
   | none => exact MonoR.none
   | some d =>
    cases d with
    | struct fields =>
     simp only
     cases fieldPlaces cx fields.toList with
     | none => exact MonoR.none
     | some places =>
      simp only
      cases Instr.fill (places.toArray[·]?) z.cells parts with
      | none => exact MonoR.none
      | some cells => exact rval_mono _
    | array n elem =>
     simp only
     cases cx.info elem with
     | none => exact MonoR.none
     | some j =>
      simp only
      cases Instr.fill (fun k => some (k * j.size, j.size)) z.cells parts with
      | none => exact MonoR.none
      | some cells => exact rval_mono _
    | _ => exact MonoR.none
theorem aBuildSlice_mono (t : TypeId) (len : Nat) (parts : List (Nat × Value)) (id : Nat) : MonoR fun H => aBuildSlice cx t len parts id H := by
 unfold aBuildSlice
 cases cx.und t with
 | none => exact MonoR.none
 | some d =>
  cases d with
  | slice elem =>
   simp only
   cases cx.info elem with
   | none => exact MonoR.none
   | some i =>
    simp only
    cases i.zero with
    | none => exact MonoR.none
    | some z =>
     simp only
     cases (Nat.ble (len * i.size) 1048576 && !Nat.beq (len * i.size) 0 && Nat.beq z.cells.size i.size) with
     | false => exact MonoR.none
     | true =>
      simp only
      cases Instr.fill (fun k => some (k * i.size, i.size)) ((Array.range (len * i.size)).map fun k => z.cells[k % z.cells.size]!) parts with
      | none => exact MonoR.none
      | some cells => exact MonoR.set _ _ _
  | _ => exact MonoR.none
theorem aPart_mono (t : TypeId) (cs : Array Value) (off : Nat) : MonoR fun H => aPart cx t cs off H := by
 unfold aPart
 cases cx.agg t with
 | none => exact MonoR.none
 | some g =>
  cases g with
  | true =>
   simp only
   cases cx.info t with
   | none => exact MonoR.none
   | some i => exact rval_mono _
  | false =>
   simp only
   cases cs[off]? with
   | none => exact MonoR.none
   | some v => exact rval_mono _
theorem aField_mono (t : TypeId) (x : Value) (k : Nat) : MonoR fun H => aField cx t x k H := by
 unfold aField
 cases cx.und t with
 | none => exact MonoR.const fun H => by simp
 | some d =>
  cases d with
  | struct fields =>
   cases x with
   | agg cs =>
    simp only
    cases fields[k]? with
    | none => exact MonoR.none
    | some f => exact aPart_mono _ _ _
   | _ => exact MonoR.none
  | _ => exact MonoR.const fun H => by simp
theorem aIndex_mono (t : TypeId) (x ix : Value) : MonoR fun H => aIndex cx t x ix H := by
 unfold aIndex
 split
 ·rename_i len elem cs i _ _
  cases cx.info elem with
  | none => exact MonoR.none
  | some j =>
   simp only
   split
   ·exact aPart_mono _ _ _
   ·exact MonoR.none
 ·exact MonoR.none
theorem aFieldAddr_mono (t : TypeId) (p : Value) (k : Nat) : MonoR fun H => aFieldAddr cx t p k H := by
 unfold aFieldAddr
 split
 ·rename_i fields b o _ _
  cases fields[k]? with
  | none => exact MonoR.none
  | some f =>
   simp only
   cases cx.info f.type with
   | none => exact MonoR.none
   | some i =>
    simp only
    cases Nat.beq i.size 0 with
    | true => exact MonoR.none
    | false => exact rval_mono _
 ·exact MonoR.none
theorem aIndexAddr_mono (t : TypeId) (x ix : Value) : MonoR fun H => aIndexAddr cx t x ix H := by
 unfold aIndexAddr
 split
 ·rename_i len elem b o i _ _
  cases cx.info elem with
  | none => exact MonoR.none
  | some j =>
   simp only
   split
   ·exact rval_mono _
   ·exact MonoR.none
 ·rename_i elem b o len c i _ _
  cases cx.info elem with
  | none => exact MonoR.none
  | some j =>
   simp only
   split
   ·exact rval_mono _
   ·exact MonoR.none
 ·exact MonoR.none
theorem aSlice_mono (t : TypeId) (x : Value) (lo hi mx : Option Value) : MonoR fun H => aSlice cx t x lo hi mx H := by
 intro H r H' K X e ho
 simp only [aSlice] at e ⊢
 split at e
 ·split at e
  ·rename_i elem b o len cap _
   split at e
   ·rename_i j a bb c hj hb
    cases hs : sized H b j.size with
    | false => rw [hs] at e; cases e
    | true =>
     rw [hs] at e
     rw [sized_mono hs ho]
     exact rval_mono _ H r H' K X e ho
   ·cases e
  ·rename_i n elem b o _
   split at e
   ·rename_i j a bb c hj hb
    cases hs : exactly H b with
    | false => rw [hs] at e; cases e
    | true =>
     rw [hs] at e
     rw [exactly_mono hs ho]
     exact rval_mono _ H r H' K X e ho
   ·cases e
  ·cases e
 ·cases e
theorem aMakeSlice_mono (t : TypeId) (len cap : Value) (id : Nat) : MonoR fun H => aMakeSlice cx t len cap id H := by
 unfold aMakeSlice
 split
 ·rename_i elem l c _ _ _
  cases cx.info elem with
  | none => exact MonoR.none
  | some i =>
   simp only
   cases i.zero with
   | none => exact MonoR.none
   | some z =>
    simp only
    split
    ·exact MonoR.set _ _ _
    ·exact MonoR.none
 ·exact MonoR.none
theorem aMakeMap_mono (id : Nat) : MonoR fun H => aMakeMap id H := MonoR.set _ _ _
theorem assertHolds_mono (v : Value) (ok : Bool) : MonoR fun H => assertHolds v ok H := rval_mono _
theorem assertFails_mono (t : TypeId) (ok : Bool) : MonoR fun H => assertFails cx t ok H := by
 unfold assertFails
 split
 ·split
  ·exact rval_mono _
  ·exact MonoR.none
 ·exact MonoR.none
theorem aTypeAssert_mono (x : Value) (t : TypeId) (ok : Bool) : MonoR fun H => aTypeAssert cx x t ok H := by
 unfold aTypeAssert
 split
 ·rename_i want u v _
  cases cx.info u with
  | none => exact MonoR.none
  | some i =>
   simp only
   cases Instr.missingMethod want i.methods with
   | none => exact assertHolds_mono _ _
   | some m => exact assertFails_mono _ _
 ·exact MonoR.none
 ·split
  ·exact assertHolds_mono _ _
  ·exact assertFails_mono _ _
 ·exact MonoR.none
theorem aEq_mono (neq : Bool) (t : TypeId) (x y : Value) : MonoR fun H => aEq cx neq t x y H := by
 unfold aEq
 cases nilEq x y with
 | none => exact MonoR.none
 | some b =>
  simp only
  split
  ·rename_i e _ _
   cases cx.info e with
   | none => exact MonoR.none
   | some i =>
    simp only
    split
    ·exact MonoR.none
    ·exact rval_mono _
  all_goals first | exact rval_mono _ | exact MonoR.none
theorem aLookup_mono (t : TypeId) (x k : Value) (ok : Bool) : MonoR fun H => aLookup cx t x k ok H := by
 unfold aLookup
 split
 ·rename_i kt elem _
  split
  ·rename_i kd _ _
   refine MonoR.bindW (mapEs_mono x) (fun es H => match pureRun cx.P (Instr.checkKey es.isEmpty 10000 kt k) with
    | none => none
    | some _ => match findIdx cx kt kd k es 0 with
     | none => none
     | some (some (_, e)) => rval (if ok then .tuple #[e.val, .bool true] else e.val) H
     | some none => match cx.info elem with
      | none => none
      | some i => match i.zero with
       | none => none
       | some z => rval (if ok then .tuple #[z, .bool false] else z) H) (fun H q => by simp only [q]) (fun H a q => by simp only [q]; rfl) (fun es => ?_)
   cases pureRun cx.P (Instr.checkKey es.isEmpty 10000 kt k) with
   | none => exact MonoR.none
   | some u =>
    simp only
    cases findIdx cx kt kd k es 0 with
    | none => exact MonoR.none
    | some r =>
     cases r with
     | some p => exact rval_mono _
     | none =>
      simp only
      cases cx.info elem with
      | none => exact MonoR.none
      | some i =>
       simp only
       cases i.zero with
       | none => exact MonoR.none
       | some z => exact rval_mono _
  ·exact MonoR.none
 ·exact MonoR.none
theorem aMapUpdate_mono (t : TypeId) (x k v : Value) : MonoR fun H => aMapUpdate cx t x k v H := by
 unfold aMapUpdate
 split
 ·rename_i kt elem m _
  split
  ·rename_i kd _ _
   refine MonoR.bindW (getMap_mono m) (fun p H => match pureRun cx.P (Instr.checkKey false 10000 kt k) with
    | none => none
    | some _ => match findIdx cx kt kd k p.1 0 with
     | none => none
     | some (some (i, e)) => match Instr.sameBits 10000 e.key k with
      | false => none
      | true => skipTo (setDat cx H m (.map (p.1.modify i fun e => { e with key := k, val := v }) p.2))
     | some none => skipTo (setDat cx H m (.map (p.1 ++ [{ key := k, val := v, born := p.2 }]) (p.2 + 1)))) (fun H q => by simp only [q]) (fun H a q => by obtain ⟨es, clock⟩ := a; simp only [q]; rfl) (fun p => ?_)
   obtain ⟨es, clock⟩ := p
   simp only
   cases pureRun cx.P (Instr.checkKey false 10000 kt k) with
   | none => exact MonoR.none
   | some u =>
    simp only
    cases findIdx cx kt kd k es 0 with
    | none => exact MonoR.none
    | some r =>
     cases r with
     | some p =>
      obtain ⟨i, e⟩ := p
      simp only
      cases Instr.sameBits 10000 e.key k with
      | false => exact MonoR.none
      | true => exact skipTo_mono (setDat_mono _ _)
     | none => exact skipTo_mono (setDat_mono _ _)
  ·exact MonoR.none
 ·exact MonoR.none
theorem aMapEntry_mono (t : TypeId) (x k : Value) : MonoR fun H => aMapEntry cx t x k H := by
 unfold aMapEntry
 split
 ·rename_i kt elem m _
  split
  ·rename_i kd _ _
   refine MonoR.bindW (getMap_mono m) (fun p H => match pureRun cx.P (Instr.checkKey false 10000 kt k) with
    | none => none
    | some _ => match findIdx cx kt kd k p.1 0 with
     | none => none
     | some (some (i, e)) => match Instr.sameBits 10000 e.key k with
      | false => none
      | true => valTo (.tuple #[e.val, goInt e.born]) (setDat cx H m (.map (p.1.modify i fun e => { e with key := k }) p.2))
     | some none => match cx.info elem with
      | none => none
      | some i => match i.zero with
       | none => none
       | some z => match shut z with
        | false => none
        | true => valTo (.tuple #[z, goInt p.2]) (setDat cx H m (.map (p.1 ++ [{ key := k, val := z, born := p.2 }]) (p.2 + 1)))) (fun H q => by simp only [q]) (fun H a q => by obtain ⟨es, clock⟩ := a; simp only [q]; rfl) (fun p => ?_)
   obtain ⟨es, clock⟩ := p
   simp only
   cases pureRun cx.P (Instr.checkKey false 10000 kt k) with
   | none => exact MonoR.none
   | some u =>
    simp only
    cases findIdx cx kt kd k es 0 with
    | none => exact MonoR.none
    | some r =>
     cases r with
     | some p =>
      obtain ⟨i, e⟩ := p
      simp only
      cases Instr.sameBits 10000 e.key k with
      | false => exact MonoR.none
      | true => exact valTo_mono _ (setDat_mono _ _)
     | none =>
      simp only
      cases cx.info elem with
      | none => exact MonoR.none
      | some i =>
       simp only
       cases i.zero with
       | none => exact MonoR.none
       | some z =>
        simp only
        cases shut z with
        | false => exact MonoR.none
        | true => exact valTo_mono _ (setDat_mono _ _)
  ·exact MonoR.none
 ·exact MonoR.none
theorem aEntryStore_mono (x s v : Value) : MonoR fun H => aEntryStore cx x s v H := by
 unfold aEntryStore
 split
 ·rename_i m n _
  refine MonoR.bindW (getMap_mono m) (fun p H => match p.1.findIdx? (fun e => (e.born : Int) == (n : Int)) with
   | none => none
   | some i => skipTo (setDat cx H m (.map (p.1.modify i fun e => { e with val := v }) p.2))) (fun H q => by simp only [q]) (fun H a q => by obtain ⟨es, clock⟩ := a; simp only [q]; rfl) (fun p => ?_)
  obtain ⟨es, clock⟩ := p
  simp only
  cases es.findIdx? (fun e => (e.born : Int) == (n : Int)) with
  | none => exact MonoR.none
  | some i => exact skipTo_mono (setDat_mono _ _)
 ·exact MonoR.none
theorem aRange_mono (t : TypeId) (x : Value) (id : Nat) : MonoR fun H => aRange cx t x id H := by
 unfold aRange
 simp only
 split
 ·exact MonoR.set _ _ _
 ·exact MonoR.set _ _ _
 ·rename_i m _
  refine MonoR.bindW (getMap_mono m) (fun p H => rval (addrV id 0) (H.set id { dat := some (.mapIter (some m) p.2 #[] p.2), elem := 0, esz := 0, exact := true, root := id, kin := [id] })) (fun H q => by simp only [q]) (fun H a q => by obtain ⟨es, clock⟩ := a; simp only [q]) (fun p => ?_)
  exact MonoR.set _ _ _
 ·exact MonoR.none
theorem aNextOp_mono (it : Value) (s : Bool) : MonoR fun H => aNextOp cx it s H := by
 intro H r H' K X e ho
 simp only [aNextOp] at e ⊢
 split at e
 ·rename_i b
  cases hg : H.get b with
  | none => rw [hg] at e; cases e
  | some ob =>
   rw [hg] at e
   rw [ho.get hg]
   simp only at e ⊢
   split at e
   ·split at e
    ·rename_i hlt
     rw [if_pos hlt]
     exact valTo_mono _ (setDat_mono _ _) H r H' K X e ho
    ·rename_i hlt
     rw [if_neg hlt]
     exact rval_mono _ H r H' K X e ho
   ·exact rval_mono _ H r H' K X e ho
   ·rename_i m since seen last _
    cases hm : getMap H m with
    | none => rw [hm] at e; cases e
    | some p =>
     obtain ⟨es, clock⟩ := p
     have q : getMap K m = some (es, clock) := getMap_mono m H _ K X hm ho
     rw [hm] at e
     rw [q]
     simp only at e ⊢
     split at e
     ·cases e
     ·rename_i hn
      rw [if_neg hn]
      split at e
      ·exact rval_mono _ H r H' K X e ho
      ·rename_i x hf
       split at e
       ·rename_i hb
        rw [if_pos hb]
        exact valTo_mono _ (setDat_mono _ _) H r H' K X e ho
       ·cases e
      ·cases e
   ·cases e
 ·cases e
theorem aAppendIn_mono (base : Option Addr) (sLen sCap n size : Nat) (new : List Value) : MonoR fun H => aAppendIn cx base sLen sCap n size new H := by
 unfold aAppendIn
 split
 ·exact rval_mono _
 ·exact rval_mono _
 ·intro H r H' K X e ho
  simp only at e ⊢
  split at e
  ·cases e
  ·rename_i H1 hst
   obtain ⟨k1, K1, k2, k3⟩ := storeN_mono _ _ _ H H1 K X hst ho
   dsimp only at k2
   rw [k2]
   obtain ⟨q1, K', q2, q3⟩ := rval_mono _ H1 r H' K1 X e k3
   exact ⟨k1.trans q1, K', q2, q3⟩
 ·exact MonoR.none
theorem aAppendMaybe_mono (elem : TypeId) (b o k size need id : Nat) (ob : AObj) (nb : Nat) (cs : T Value) (old new : List Value) : MonoR fun H => aAppendMaybe cx elem b o k size need id ob nb cs old new H := by
 unfold aAppendMaybe
 cases (Nat.beq ob.esz size && Nat.ble cx.lo b && Nat.beq ob.elem elem) with
 | false => exact MonoR.none
 | true =>
  simp only
  cases Nat.beq (Nat.add o k) nb with
  | true =>
   exact MonoR.bindG (growKin_mono ob.root id (fun m => Nat.ble m b)) (fun H => rval (.slice (some ⟨id, 0, none⟩) need need) (H.set id (grownObj elem size ob.root (Nat.add k new.length) (match Nat.beq o 0 with
    | true => cs.setList k new
    | false => T.setList .nil 0 (old ++ new))))) (fun H q => by simp only [q]) (fun H a q => by simp only [q]; rfl) (MonoR.set _ _ _)
  | false =>
   exact MonoR.bindG (growKin_mono ob.root id (fun _ => false)) (fun H => rval (.slice (some ⟨id, 0, none⟩) need need) (H.set id (grownObj elem size ob.root (Nat.add k new.length) (T.setList .nil 0 (old ++ new))))) (fun H q => by simp only [q]) (fun H a q => by simp only [q]) (MonoR.set _ _ _)
theorem aAppendOut_mono (elem : TypeId) (base : Option Addr) (sLen n size : Nat) (new : List Value) (id : Nat) : MonoR fun H => aAppendOut cx elem base sLen n size new id H := by
 intro H r H' K X e ho
 simp only [aAppendOut] at e ⊢
 split at e
 ·split at e
  ·exact MonoR.set _ _ _ H r H' K X e ho
  ·cases e
 ·rename_i b o
  cases hg : H.get b with
  | none => rw [hg] at e; cases e
  | some ob =>
   rw [hg] at e
   rw [ho.get hg]
   simp only at e ⊢
   split at e
   ·rename_i nb cs hd
    cases hl : loadOld H b o (Nat.mul sLen size) with
    | none => rw [hl] at e; cases e
    | some old =>
     have q : loadOld K b o (Nat.mul sLen size) = some old := loadOld_mono b o _ H old K X hl ho
     rw [hl] at e
     rw [q]
     simp only at e ⊢
     cases hx : ob.exact with
     | true => rw [hx] at e; exact MonoR.set _ _ _ H r H' K X e ho
     | false => rw [hx] at e; exact aAppendMaybe_mono _ _ _ _ _ _ _ _ _ _ _ _ H r H' K X e ho
   ·cases e
 ·cases e
theorem aAppend_mono (argTypes : Array TypeId) (args : Array Value) (id : Nat) : MonoR fun H => aAppend cx argTypes args id H := by
 unfold aAppend
 split
 ·rename_i st base sLen sCap x _ _ _
  split
  ·rename_i elem _
   split
   ·rename_i ei n _ _
    cases (notInt cx argTypes[1]? && zeroFits ei) with
    | false => exact MonoR.none
    | true =>
     simp only
     refine MonoR.bindW (srcCells_mono ei.size n x) (fun new H => match Nat.beq new.length (Nat.mul n ei.size) && new.all oneCell with
      | false => none
      | true => match Nat.ble (Nat.add sLen n) sCap with
       | true => aAppendIn cx base sLen sCap n ei.size new H
       | false => match Nat.ble (Nat.mul (Nat.add (Nat.mul 2 (Nat.add sLen n)) 1000) ei.bytes) 140737488355328 && Nat.ble 1 ei.bytes && Nat.ble (Nat.add sLen n) 4611686018427387904 with
        | false => none
        | true => aAppendOut cx elem base sLen n ei.size new id H) (fun H q => by simp only [q]) (fun H a q => by simp only [q]; rfl) (fun new => ?_)
     cases (Nat.beq new.length (Nat.mul n ei.size) && new.all oneCell) with
     | false => exact MonoR.none
     | true =>
      simp only
      cases Nat.ble (Nat.add sLen n) sCap with
      | true => exact aAppendIn_mono _ _ _ _ _ _
      | false =>
       simp only
       cases (Nat.ble (Nat.mul (Nat.add (Nat.mul 2 (Nat.add sLen n)) 1000) ei.bytes) 140737488355328 && Nat.ble 1 ei.bytes && Nat.ble (Nat.add sLen n) 4611686018427387904) with
       | false => exact MonoR.none
       | true => exact aAppendOut_mono _ _ _ _ _ _ _
   ·exact MonoR.none
  ·exact MonoR.none
 ·exact MonoR.none
theorem aCopy_mono (argTypes : Array TypeId) (args : Array Value) : MonoR fun H => aCopy cx argTypes args H := by
 unfold aCopy
 split
 ·rename_i dt base dLen dCap x _ _ _
  split
  ·rename_i elem _
   split
   ·rename_i ei sl _ _
    simp only
    intro H r H' K X e ho
    simp only at e ⊢
    cases hs : srcCells ei.size (Nat.min sl dLen) x H with
    | none => rw [hs] at e; cases e
    | some new =>
     have q : srcCells ei.size (Nat.min sl dLen) x K = some new := srcCells_mono _ _ _ H new K X hs ho
     rw [hs] at e
     rw [q]
     cases new with
     | nil => exact rval_mono _ H r H' K X e ho
     | cons v vs =>
      simp only at e ⊢
      split at e
      ·rename_i b o _
       cases hst : storeN cx H b o (v :: vs) with
       | none => rw [hst] at e; cases e
       | some H1 =>
        obtain ⟨k1, K1, k2, k3⟩ := storeN_mono b o (v :: vs) H H1 K X hst ho
        dsimp only at k2
        rw [hst] at e
        rw [k2]
        obtain ⟨q1, K', q2, q3⟩ := rval_mono _ H1 r H' K1 X e k3
        exact ⟨k1.trans q1, K', q2, q3⟩
      ·cases e
   ·exact MonoR.none
  ·exact MonoR.none
 ·exact MonoR.none
theorem aConvert_mono (src dst : TypeId) (x : Value) (id : Nat) : MonoR fun H => aConvert cx src dst x id H := by
 unfold aConvert
 split
 ·split
  ·intro H r H' K X e ho
   simp only at e ⊢
   split at e
   ·cases e
   ·rename_i l hl
    have q := loadN_mono _ _ _ H l K X hl ho
    dsimp only at q
    rw [q]
    simp only at e ⊢
    split at e
    ·cases e
    ·exact rval_mono _ H r H' K X e ho
  ·exact MonoR.none
 ·split
  ·exact MonoR.set _ _ _
  ·exact MonoR.none
 ·exact MonoR.none
theorem aLen_mono (argTypes : Array TypeId) (args : Array Value) : MonoR fun H => aLen cx argTypes args H := by
 unfold aLen
 split
 ·split
  ·exact rval_mono _
  ·exact MonoR.none
 ·rename_i t m _ _
  split
  ·intro H r H' K X e ho
   simp only at e ⊢
   split at e
   ·rename_i es clock hm
    have q := getMap_mono _ H _ K X hm ho
    dsimp only at q
    rw [q]
    exact rval_mono _ H r H' K X e ho
   ·cases e
  ·exact MonoR.none
 ·exact MonoR.none
variable {cx : Cx}
theorem closedRun_mono (ρ : Operand → Value) (o : Oper) : MonoR fun H => closedRun cx ρ o H := by
 unfold closedRun
 cases o.op.operands.toList.all (fun x => shut (ρ x)) with
 | false => exact MonoR.none
 | true =>
  simp only
  cases pureRun cx.P (execOp ρ o) with
  | none => exact MonoR.none
  | some n =>
   cases n with
   | value v =>
    simp only
    cases shut v with
    | true => exact rval_mono _
    | false => exact MonoR.none
   | skip => intro H r H' K X e ho; simp only at e ⊢; cases e; exact ⟨Kept.refl _, K, rfl, ho⟩
   | enter f args =>
    simp only
    cases args.toList.all shut with
    | true => intro H r H' K X e ho; simp only at e ⊢; cases e; exact ⟨Kept.refl _, K, rfl, ho⟩
    | false => exact MonoR.none
   | _ => exact MonoR.none
theorem orElse_mono {F G : Hp → Res} (hF : MonoR F) (hG : MonoR G) (hno : ∀ H K X, Ov H K X → F H = none → F K = none) : MonoR fun H => orElse (F H) fun _ => G H := by
 intro H r H' K X e ho
 simp only [orElse] at e ⊢
 cases hf : F H with
 | none => rw [hf] at e; rw [hno H K X ho hf]; exact hG H r H' K X e ho
 | some p =>
  obtain ⟨r1, H1⟩ := p
  rw [hf] at e
  cases e
  obtain ⟨k1, K1, k2, k3⟩ := hF H r H' K X hf ho
  rw [k2]
  exact ⟨k1, K1, rfl, k3⟩
theorem closedRun_none (ρ : Operand → Value) (o : Oper) (H K : Hp) (h : closedRun cx ρ o H = none) : closedRun cx ρ o K = none := by
 unfold closedRun rval at h ⊢
 split at h
 ·rfl
 ·split at h
  ·split at h
   ·cases h
   ·rename_i hv; simp only [hv]
  ·cases h
  ·split at h
   ·cases h
   ·rename_i hv; simp only [hv]
  ·rfl
theorem aCallFunc_mono (f : FuncId) (args : Array Value) : MonoR fun H => aCallFunc cx f args H := by
 unfold aCallFunc
 cases cx.body f with
 | none => exact MonoR.none
 | some fn =>
  simp only
  cases fn.body with
  | none => exact MonoR.none
  | some c => intro H r H' K X e ho; simp only at e ⊢; cases e; exact ⟨Kept.refl _, K, rfl, ho⟩
theorem aCallFunc_none (f : FuncId) (args : Array Value) (H K : Hp) (h : aCallFunc cx f args H = none) : aCallFunc cx f args K = none := by
 unfold aCallFunc at h ⊢
 split at h
 ·split at h
  ·cases h
  ·rename_i hv; simp only [hv]
 ·rfl
theorem lenElse_mono (argTypes : Array TypeId) (args : Array Value) (ρ : Operand → Value) (o : Oper) (hargs : ∀ m, args[0]? = some (.map (some m)) → closedRun cx ρ o .nil = none) :
  MonoR fun H => orElse (aLen cx argTypes args H) fun _ => closedRun cx ρ o H := by
 intro H r H' K X e ho
 simp only [orElse] at e ⊢
 cases hf : aLen cx argTypes args H with
 | some p =>
  obtain ⟨r1, H1⟩ := p
  rw [hf] at e
  cases e
  obtain ⟨k1, K1, k2, k3⟩ := aLen_mono argTypes args H r H' K X hf ho
  dsimp only at k2
  rw [k2]
  exact ⟨k1, K1, rfl, k3⟩
 | none =>
  rw [hf] at e
  simp only at e
  have hK : aLen cx argTypes args K = none := by
   unfold aLen rval at hf ⊢
   split at hf
   ·split at hf
    ·cases hf
    ·rfl
   ·rename_i t m _ h0
    have := closedRun_none ρ o .nil H (hargs m h0)
    rw [this] at e
    cases e
   ·rfl
  rw [hK]
  exact closedRun_mono ρ o H r H' K X e ho
theorem closedRun_open {ρ : Operand → Value} {o : Oper} {x : Operand} (hx : x ∈ o.op.operands.toList) (h : shut (ρ x) = false) (H : Hp) : closedRun cx ρ o H = none := by
 unfold closedRun
 have : o.op.operands.toList.all (fun x => shut (ρ x)) = false := by
  rw [List.all_eq_false]
  exact ⟨x, hx, by rw [h]; simp⟩
 rw [this]
theorem evOp_mono (ρ : Operand → Value) (o : Oper) (id : Nat) : MonoR fun H => evOp cx ρ o id H := by
 obtain ⟨dst, op, ty, pos, after, guard⟩ := o
 have cl := closedRun_mono (cx := cx) ρ ⟨dst, op, ty, pos, after, guard⟩
 cases op with
 | select cs b => exact MonoR.none
 | move x => exact rval_mono _
 | assign x => exact rval_mono _
 | pick c a b =>
  simp only [evOp]
  split
  ·exact rval_mono _
  ·exact MonoR.none
 | load t a => exact aLoad_mono _ _
 | store t a x => exact aStore_mono _ _ _
 | fieldAddr s x f => exact aFieldAddr_mono _ _ _
 | indexAddr t x i => exact aIndexAddr_mono _ _ _
 | alloc e => exact aAlloc_mono _ _
 | box e x => exact aBox_mono _ _ _
 | build t parts => exact aBuild_mono _ _
 | buildSlice t len parts => exact aBuildSlice_mono _ _ _ _
 | field t x k => exact aField_mono _ _ _
 | extract t k =>
  simp only [evOp]
  split
  ·split
   ·exact rval_mono _
   ·exact MonoR.none
  ·exact MonoR.none
 | nilCheck x =>
  simp only [evOp]
  split
  ·exact rval_mono _
  ·exact rval_mono _
  ·exact rval_mono _
  ·exact MonoR.none
 | makeInterface t x =>
  simp only [evOp]
  split
  ·exact MonoR.none
  ·exact rval_mono _
  ·exact MonoR.none
 | makeFunc fn a b => exact rval_mono _
 | makeMap t r =>
  cases r with
  | none => exact aMakeMap_mono _
  | some r => exact cl
 | makeSlice t l c => exact aMakeSlice_mono _ _ _ _
 | typeAssert x xt asserted ok =>
  simp only [evOp]
  split
  ·exact cl
  ·exact aTypeAssert_mono _ _ _
 | lookup t x k ok => exact aLookup_mono _ _ _ _
 | mapUpdate t m k v => exact aMapUpdate_mono _ _ _ _
 | insert t m k v => exact aMapUpdate_mono _ _ _ _
 | mapEntry t m k => exact aMapEntry_mono _ _ _
 | entryStore t m s v => exact aEntryStore_mono _ _ _
 | range t x => exact aRange_mono _ _ _
 | next it s => exact aNextOp_mono _ _
 | index t x i =>
  simp only [evOp]
  split
  ·exact aIndex_mono _ _ _
  ·exact cl
 | slice t x lo hi mx =>
  simp only [evOp]
  split
  ·exact cl
  ·exact cl
  ·exact aSlice_mono _ _ _ _ _
 | convert s d x =>
  simp only [evOp]
  split
  ·exact aConvert_mono _ _ _ _
  ·exact orElse_mono cl (aConvert_mono _ _ _ _) (fun H K X _ h => closedRun_none _ _ H K h)
  ·exact cl
 | binOp op t x y yt =>
  simp only [evOp]
  refine orElse_mono cl ?_ (fun H K X _ h => closedRun_none _ _ H K h)
  split
  ·exact aEq_mono _ _ _ _
  ·exact aEq_mono _ _ _ _
  ·exact MonoR.none
 | call c =>
  obtain ⟨callee, cargs, argTypes⟩ := c
  simp only [evOp]
  cases callee with
  | builtin b =>
   cases b with
   | append => exact aAppend_mono _ _ _
   | copy => exact aCopy_mono _ _
   | len =>
    refine lenElse_mono _ _ _ _ (fun m hm => ?_)
    rw [Array.getElem?_map, Option.map_eq_some_iff] at hm
    obtain ⟨x, hx, hv⟩ := hm
    refine closedRun_open (x := x) ?_ (by rw [hv]; rfl) _
    simp only [Op.operands, Call.operands, Array.toList_append]
    exact List.mem_append_right _ (by rw [← Array.getElem?_toList] at hx; exact List.mem_of_getElem? hx)
   | _ => exact cl
  | value f =>
   simp only
   split
   ·exact orElse_mono (aCallFunc_mono _ _) cl (fun H K X _ h => aCallFunc_none _ _ H K h)
   ·exact MonoR.none
  | invoke recv name =>
   simp only
   split
   ·split
    ·exact orElse_mono (aCallFunc_mono _ _) cl (fun H K X _ h => aCallFunc_none _ _ H K h)
    ·exact MonoR.none
   ·exact MonoR.none
 | _ => exact cl
def MonoC (K : Caller) : Prop :=
 ∀ f args H nx v H' nx', K f args H nx = some (v, H', nx') → ∀ G X, Ov H G X → (∀ i, nx ≤ i → X i = none) → nx ≤ nx' ∧ Kept H H' ∧ ∃ G', K f args G nx = some (v, G', nx') ∧ Ov H' G' X
theorem evFull_mono {C : Caller} (hC : MonoC C) {ρ : Operand → Value} {o : Oper} {H : Hp} {nx : Nat} {v : Value} {H' : Hp} {nx' : Nat} (h : evFull cx C ρ o H nx = some (v, H', nx')) {G : Hp} {X : Nat → Option AObj} (ho : Ov H G X) (hX : ∀ i, nx ≤ i → X i = none) :
  nx ≤ nx' ∧ Kept H H' ∧ ∃ G', evFull cx C ρ o G nx = some (v, G', nx') ∧ Ov H' G' X := by
 unfold evFull at h ⊢
 cases he : evOp cx ρ o nx H with
 | none => rw [he] at h; cases h
 | some p =>
  obtain ⟨r, H1⟩ := p
  rw [he] at h
  obtain ⟨k1, G1, k2, k3⟩ := evOp_mono ρ o nx H r H1 G X he ho
  dsimp only at k2
  rw [k2]
  cases r with
  | val u => cases h; exact ⟨Nat.le_succ nx, k1, G1, rfl, k3⟩
  | skip => cases h; exact ⟨Nat.le_succ nx, k1, G1, rfl, k3⟩
  | enter f args =>
   simp only at h ⊢
   obtain ⟨q1, q2, G', q3, q4⟩ := hC f args H1 (nx + 1) v H' nx' h G1 X k3 (fun i hi => hX i (by omega))
   exact ⟨by omega, k1.trans q2, G', q3, q4⟩
theorem evOps_mono {C : Caller} (hC : MonoC C) {ops : Array Oper} {nt : Nat} : ∀ (l : List Oper) (s s' : St), evOps cx C ops nt l s = some s' → ∀ G X, Ov s.H G X → (∀ i, s.nx ≤ i → X i = none) →
  s.nx ≤ s'.nx ∧ Kept s.H s'.H ∧ ∃ G', evOps cx C ops nt l { s with H := G } = some { s' with H := G' } ∧ Ov s'.H G' X
 | [], s, s', h, G, X, ho, hX => by simp only [evOps] at h; cases h; exact ⟨Nat.le_refl _, Kept.refl _, G, rfl, ho⟩
 | o :: l, s, s', h, G, X, ho, hX => by
  simp only [evOps] at h ⊢
  cases hgd : guardOk ops s.tm o with
  | false => rw [hgd] at h; cases h
  | true =>
  rw [hgd] at h
  simp only at h ⊢
  cases hw : wantedT o ops s.tm with
  | false =>
   rw [hw] at h
   simp only at h ⊢
   cases hp : putT s.tm nt o.dst undef with
   | none => rw [hp] at h; cases h
   | some tm =>
    rw [hp] at h
    exact evOps_mono hC l { s with tm } s' h G X ho hX
  | true =>
   rw [hw] at h
   simp only at h ⊢
   cases hco : constsOk cx s.tm o with
   | false => rw [hco] at h; cases h
   | true =>
    rw [hco] at h
    simp only at h ⊢
    cases hf : evFull cx C (St.eval s.tm) o s.H s.nx with
    | none => rw [hf] at h; cases h
    | some p =>
     obtain ⟨v, H1, nx1⟩ := p
     rw [hf] at h
     obtain ⟨q1, q2, G1, q3, q4⟩ := evFull_mono hC hf ho hX
     rw [q3]
     simp only at h ⊢
     cases hp : putT s.tm nt o.dst v with
     | none => rw [hp] at h; cases h
     | some tm =>
      rw [hp] at h
      obtain ⟨r1, r2, G2, r3, r4⟩ := evOps_mono hC l { tm, H := H1, nx := nx1 } s' h G1 X q4 (fun i hi => hX i (Nat.le_trans q1 hi))
      exact ⟨Nat.le_trans q1 r1, q2.trans r2, G2, r3, r4⟩
theorem minHeap_mono {G K : Hp} {X : Nat → Option AObj} (ho : Ov G K X) (mask : Nat) : ∀ (all : List (Nat × Nat × AObj)), (∀ p ∈ all, X p.2.1 = none) → Ov (minHeap G all mask) (minHeap K all mask) X
 | [], _ => ho
 | (j, id, ob) :: r, hX => by
  have ih := minHeap_mono ho mask r (fun p hp => hX p (List.mem_cons_of_mem _ hp))
  simp only [minHeap]
  cases mask.testBit j with
  | false => exact ih
  | true =>
   simp only
   cases hg : (minHeap G r mask).get id with
   | some o => rw [ih.get hg]; exact ih
   | none =>
    have : (minHeap K r mask).get id = none := by
     rw [ih id, hg]
     exact hX _ List.mem_cons_self
    rw [this]
    exact ih.set id ob
theorem minHeap_kept (G : Hp) (mask : Nat) : ∀ (all : List (Nat × Nat × AObj)), Kept G (minHeap G all mask)
 | [] => Kept.refl _
 | (j, id, ob) :: r => by
  have ih := minHeap_kept G mask r
  simp only [minHeap]
  cases mask.testBit j with
  | false => exact ih
  | true =>
   simp only
   cases hg : (minHeap G r mask).get id with
   | some o => exact ih
   | none => exact ih.trans (Kept.set _ _ _)
theorem sameLoad_mono {o : Oper} {tm : T Value} {id : Nat} {H K : Hp} {v : Value} {X : Nat → Option AObj} (h : sameLoad cx o tm id H v = true) (ho : Ov H K X) : sameLoad cx o tm id K v = true := by
 unfold sameLoad at h ⊢
 cases he : evOp cx (St.eval tm) o id H with
 | none => rw [he] at h; cases h
 | some p =>
  obtain ⟨r, H1⟩ := p
  rw [he] at h
  obtain ⟨_, K1, k2, _⟩ := evOp_mono (St.eval tm) o id H r H1 K X he ho
  dsimp only at k2
  rw [k2]
  cases r with
  | val u => exact h
  | _ => cases h
structure DrOv (base : Nat) (D D' : Dr) (X : Nat → Option AObj) : Prop where
 tm : D'.tm = D.tm
 nx : D'.nx = D.nx
 all : D'.all = D.all
 loads : D'.loads = D.loads
 G : Ov D.G D'.G X
 stages : D'.stages.length = D.stages.length ∧ ∀ (i : Nat) p p', D.stages[i]? = some p → D'.stages[i]? = some p' → p'.1 = p.1 ∧ Ov p.2 p'.2 X
 ids : ∀ p ∈ D.all, base ≤ p.2.1
 up : base ≤ D.nx
theorem stages_all {base : Nat} {D D' : Dr} {X : Nat → Option AObj} (h : DrOv base D D' X) (hX : ∀ i, base ≤ i → X i = none) {m : Nat} {o : Oper} {tm : T Value} {id : Nat} {v : Value}
  (k : D.stages.all (fun st => m.testBit st.1 || sameLoad cx o tm id (minHeap st.2 D.all m) v) = true) : D'.stages.all (fun st => m.testBit st.1 || sameLoad cx o tm id (minHeap st.2 D'.all m) v) = true := by
 rw [List.all_eq_true] at k ⊢
 intro p' hp'
 obtain ⟨i, hi⟩ := List.getElem?_of_mem hp'
 have hlt : i < D.stages.length := by rw [← h.stages.1]; exact (List.getElem?_eq_some_iff.1 hi).1
 obtain ⟨e1, e2⟩ := h.stages.2 i _ p' (List.getElem?_eq_getElem hlt) hi
 have := k _ (List.getElem_mem hlt)
 rw [Bool.or_eq_true] at this ⊢
 rw [e1]
 rcases this with q | q
 ·exact .inl q
 ·refine .inr ?_
  rw [h.all]
  exact sameLoad_mono q (minHeap_mono e2 m D.all (fun p hp => hX _ (h.ids p hp)))
theorem drStep_mono {C : Caller} (hC : MonoC C) {ops : Array Oper} {nt : Nat} {preds : Array Nat} {base j : Nat} {o : Oper} {D D1 D' : Dr} {X : Nat → Option AObj} (h : drStep cx C ops nt preds base j o D = some D1) (ho : DrOv base D D' X) (hX : ∀ i, base ≤ i → X i = none) :
  D.nx ≤ D1.nx ∧ Kept D.G D1.G ∧ ∃ D1', drStep cx C ops nt preds base j o D' = some D1' ∧ DrOv base D1 D1' X := by
 have fin : ∀ (v : Value) (S S' S1 : Dr), (match putT S.tm nt o.dst v with | none => none | some tm => some { S with tm }) = some S1 → DrOv base S S' X →
   S1.nx = S.nx ∧ S1.G = S.G ∧ ∃ S1', (match putT S'.tm nt o.dst v with | none => none | some tm => some { S' with tm }) = some S1' ∧ DrOv base S1 S1' X := by
  intro v S S' S1 hs hov
  cases hp : putT S.tm nt o.dst v with
  | none => rw [hp] at hs; cases hs
  | some tm =>
   rw [hp] at hs; cases hs
   rw [hov.tm, hp]
   exact ⟨rfl, rfl, _, rfl, rfl, hov.nx, hov.all, hov.loads, hov.G, hov.stages, hov.ids, hov.up⟩
 unfold drStep at h ⊢
 simp only at h ⊢
 rw [ho.tm]
 cases hgd : guardOk ops D.tm o with
 | false => rw [hgd] at h; cases h
 | true =>
 rw [hgd] at h
 simp only at h ⊢
 cases hw : wantedT o ops D.tm with
 | false =>
  rw [hw] at h
  simp only at h ⊢
  obtain ⟨q1, q2, q3⟩ := fin undef D D' D1 h ho
  rw [ho.tm] at q3
  exact ⟨Nat.le_of_eq q1.symm, by rw [q2]; exact Kept.refl _, q3⟩
 | true =>
  rw [hw] at h
  simp only at h ⊢
  cases hco : constsOk cx D.tm o with
  | false => rw [hco] at h; cases h
  | true =>
   rw [hco] at h
   simp only at h ⊢
   cases hcat : cat o.op with
   | pure =>
    rw [hcat] at h
    simp only at h ⊢
    cases he : evOp cx (St.eval D.tm) o (base + j) .nil with
    | none => rw [he] at h; cases h
    | some p =>
     obtain ⟨r, H1⟩ := p
     rw [he] at h
     cases r with
     | val v =>
      simp only at h ⊢
      obtain ⟨q1, q2, q3⟩ := fin v D D' D1 h ho
      rw [ho.tm] at q3
      exact ⟨Nat.le_of_eq q1.symm, by rw [q2]; exact Kept.refl _, q3⟩
     | _ => cases h
   | alloc =>
    rw [hcat] at h
    simp only at h ⊢
    cases he : evOp cx (St.eval D.tm) o (base + j) .nil with
    | none => rw [he] at h; cases h
    | some p =>
     obtain ⟨r, H1⟩ := p
     rw [he] at h
     cases r with
     | val v =>
      simp only at h ⊢
      cases hg : H1.get (base + j) with
      | none => rw [hg] at h; cases h
      | some ob =>
       rw [hg] at h
       simp only at h ⊢
       have hov2 : DrOv base { D with all := (j, base + j, ob) :: D.all } { D' with all := (j, base + j, ob) :: D'.all } X :=
        ⟨ho.tm, ho.nx, by simp only [ho.all], ho.loads, ho.G, ho.stages, fun p hp => by
         rcases List.mem_cons.1 hp with e | e
         ·rw [e]; exact Nat.le_add_right _ _
         ·exact ho.ids p e, ho.up⟩
       obtain ⟨q1, q2, q3⟩ := fin v _ _ D1 h hov2
       simp only [ho.tm] at q3
       exact ⟨Nat.le_of_eq q1.symm, by rw [q2]; exact Kept.refl _, q3⟩
     | _ => cases h
   | load =>
    rw [hcat] at h
    simp only at h ⊢
    cases he : evOp cx (St.eval D.tm) o (base + j) (minHeap D.G D.all (preds.getD j 0)) with
    | none => rw [he] at h; cases h
    | some p =>
     obtain ⟨r, H1⟩ := p
     rw [he] at h
     have hmo := minHeap_mono ho.G (preds.getD j 0) D.all (fun p hp => hX _ (ho.ids p hp))
     obtain ⟨_, K1, k2, _⟩ := evOp_mono (St.eval D.tm) o (base + j) _ r H1 _ X he hmo
     dsimp only at k2
     rw [ho.all, k2]
     cases r with
     | val v =>
      simp only at h ⊢
      cases hall : D.stages.all (fun st => (preds.getD j 0).testBit st.1 || sameLoad cx o D.tm (base + j) (minHeap st.2 D.all (preds.getD j 0)) v) with
      | false => rw [hall] at h; cases h
      | true =>
       rw [hall] at h
       have := stages_all (cx := cx) ho hX hall
       rw [ho.all] at this
       rw [this]
       simp only at h ⊢
       have hov2 : DrOv base { D with loads := (j, o, D.tm, v) :: D.loads } { D' with loads := (j, o, D.tm, v) :: D'.loads } X :=
        ⟨ho.tm, ho.nx, ho.all, by simp only [ho.loads], ho.G, ho.stages, ho.ids, ho.up⟩
       obtain ⟨q1, q2, q3⟩ := fin v _ _ D1 h hov2
       simp only [ho.tm, ho.all] at q3
       exact ⟨Nat.le_of_eq q1.symm, by rw [q2]; exact Kept.refl _, q3⟩
     | _ => cases h
   | effect =>
    rw [hcat] at h
    simp only at h ⊢
    have hst : lastIn (preds.getD j 0) D'.stages = lastIn (preds.getD j 0) D.stages := by
     cases h1 : D.stages with
     | nil =>
      have := ho.stages.1
      rw [h1] at this
      cases h2 : D'.stages with
      | nil => rfl
      | cons a b => rw [h2] at this; simp at this
     | cons a b =>
      have := ho.stages.1
      rw [h1] at this
      cases h2 : D'.stages with
      | nil => rw [h2] at this; simp at this
      | cons a' b' =>
       have := (ho.stages.2 0 a a' (by rw [h1]; rfl) (by rw [h2]; rfl)).1
       simp only [lastIn, this]
    rw [hst]
    cases hsb : lastIn (preds.getD j 0) D.stages with
    | false => rw [hsb] at h; cases h
    | true =>
     rw [hsb] at h
     simp only at h ⊢
     have hmo := minHeap_mono ho.G (preds.getD j 0) D.all (fun p hp => hX _ (ho.ids p hp))
     cases he : evFull cx C (St.eval D.tm) o (minHeap D.G D.all (preds.getD j 0)) D.nx with
     | none => rw [he] at h; cases h
     | some p =>
      obtain ⟨v, H1, nx1⟩ := p
      rw [he] at h
      obtain ⟨q1, q2, G1, q3, q4⟩ := evFull_mono hC he hmo (fun i hi => hX i (Nat.le_trans ho.up hi))
      rw [ho.all, ho.nx, q3]
      simp only at h ⊢
      cases hall : D.loads.all (fun l => (preds.getD j 0).testBit l.1 || sameLoad cx l.2.1 l.2.2.1 (base + l.1) (minHeap H1 D.all (preds.getD l.1 0)) l.2.2.2) with
      | false => rw [hall] at h; cases h
      | true =>
       rw [hall] at h
       have hall' : D'.loads.all (fun l => (preds.getD j 0).testBit l.1 || sameLoad cx l.2.1 l.2.2.1 (base + l.1) (minHeap G1 D.all (preds.getD l.1 0)) l.2.2.2) = true := by
        rw [ho.loads]
        rw [List.all_eq_true] at hall ⊢
        intro l hl
        have := hall l hl
        rw [Bool.or_eq_true] at this ⊢
        rcases this with q | q
        ·exact .inl q
        ·exact .inr (sameLoad_mono q (minHeap_mono q4 _ D.all (fun p hp => hX _ (ho.ids p hp))))
       rw [hall']
       simp only at h ⊢
       have hov2 : DrOv base { D with G := H1, nx := nx1, stages := (j, D.G) :: D.stages } { D' with G := G1, nx := nx1, stages := (j, D'.G) :: D'.stages } X :=
        ⟨ho.tm, rfl, ho.all, ho.loads, q4, ⟨by simp only [List.length_cons, ho.stages.1], fun i p p' x y => by
         cases i with
         | zero => simp at x y; rw [← x, ← y]; exact ⟨rfl, ho.G⟩
         | succ i => exact ho.stages.2 i p p' (by simpa using x) (by simpa using y)⟩, ho.ids, Nat.le_trans ho.up q1⟩
       obtain ⟨r1, r2, r3⟩ := fin v _ _ D1 h hov2
       simp only [ho.tm, ho.all] at r3
       exact ⟨by rw [r1]; exact q1, by rw [r2]; exact (minHeap_kept _ _ _).trans q2, r3⟩
theorem drOps_mono {C : Caller} (hC : MonoC C) {ops : Array Oper} {nt : Nat} {preds : Array Nat} {base : Nat} {X : Nat → Option AObj} (hX : ∀ i, base ≤ i → X i = none) : ∀ (l : List (Oper × Nat)) (D D1 D' : Dr), drOps cx C ops nt preds base l D = some D1 → DrOv base D D' X →
  D.nx ≤ D1.nx ∧ Kept D.G D1.G ∧ ∃ D1', drOps cx C ops nt preds base l D' = some D1' ∧ DrOv base D1 D1' X
 | [], D, D1, D', h, ho => by simp only [drOps] at h; cases h; exact ⟨Nat.le_refl _, Kept.refl _, D', rfl, ho⟩
 | (o, j) :: l, D, D1, D', h, ho => by
  simp only [drOps] at h ⊢
  cases hs : drStep cx C ops nt preds base j o D with
  | none => rw [hs] at h; cases h
  | some D2 =>
   rw [hs] at h
   obtain ⟨q1, q2, D2', q3, q4⟩ := drStep_mono hC hs ho hX
   rw [q3]
   obtain ⟨r1, r2, D3', r3, r4⟩ := drOps_mono hC hX l D2 D1 D2' h q4
   exact ⟨Nat.le_trans q1 r1, q2.trans r2, D3', r3, r4⟩
theorem evDraw_mono {C : Caller} (hC : MonoC C) {ops : Array Oper} {nt : Nat} {s s' : St} (h : evDraw cx C ops nt s = some s') {G : Hp} {X : Nat → Option AObj} (ho : Ov s.H G X) (hX : ∀ i, s.nx ≤ i → X i = none) :
  s.nx ≤ s'.nx ∧ Kept s.H s'.H ∧ ∃ G', evDraw cx C ops nt { s with H := G } = some { s' with H := G' } ∧ Ov s'.H G' X := by
 unfold evDraw at h ⊢
 simp only at h ⊢
 cases hok : drOk ops (predsGo ops.toList #[]) with
 | false => rw [hok] at h; cases h
 | true =>
  rw [hok] at h
  simp only at h ⊢
  cases hd : drOps cx C ops nt (predsGo ops.toList #[]) s.nx ops.toList.zipIdx { tm := s.tm, G := s.H, nx := Nat.add s.nx ops.size, all := [], stages := [], loads := [] } with
  | none => rw [hd] at h; cases h
  | some D =>
   rw [hd] at h
   cases h
   obtain ⟨q1, q2, D', q3, q4⟩ := drOps_mono hC hX _ _ D { tm := s.tm, G := G, nx := Nat.add s.nx ops.size, all := [], stages := [], loads := [] } hd
    ⟨rfl, rfl, rfl, rfl, ho, ⟨rfl, fun i p p' x => by simp at x⟩, fun p hp => by simp at hp, Nat.le_add_right _ _⟩
   rw [q3]
   simp only [q4.tm, q4.nx, q4.all]
   exact ⟨Nat.le_trans (Nat.le_add_right _ _) q1, q2.trans (minHeap_kept _ _ _), _, rfl, minHeap_mono q4.G _ D.all (fun p hp => hX _ (q4.ids p hp))⟩
theorem evCode_mono {C : Caller} (hC : MonoC C) {nt : Nat} : ∀ (n : Nat) (c : Code) (s s' : St) (e : AExit), evCode cx C nt n c s = some (e, s') → ∀ G X, Ov s.H G X → (∀ i, s.nx ≤ i → X i = none) →
  s.nx ≤ s'.nx ∧ Kept s.H s'.H ∧ ∃ G', evCode cx C nt n c { s with H := G } = some (e, { s' with H := G' }) ∧ Ov s'.H G' X
 | 0, c, s, s', e, h => by simp [evCode] at h
 | n + 1, c, s, s', e, h => by
  intro G X ho hX
  have ih := evCode_mono hC (nt := nt) n
  have same : ∀ e2 s2, some (e2, s) = some (e, s2) → s2 = s' → s.nx ≤ s'.nx ∧ Kept s.H s'.H ∧ ∃ G', some (e2, { s with H := G }) = some (e, ({ s' with H := G' } : St)) ∧ Ov s'.H G' X := by
   intro e2 s2 q r
   subst r
   cases q
   exact ⟨Nat.le_refl _, Kept.refl _, G, rfl, ho⟩
  have piece : ∀ (b : Code) (k k' : AExit → St → Option (AExit × St)), (∀ e1 s1 G1, s.nx ≤ s1.nx → Ov s1.H G1 X → k e1 s1 = some (e, s') → s1.nx ≤ s'.nx ∧ Kept s1.H s'.H ∧ ∃ G', k e1 { s1 with H := G1 } = some (e, { s' with H := G' }) ∧ Ov s'.H G' X) →
    (match evCode cx C nt n b s with | none => none | some (e1, s1) => k e1 s1) = some (e, s') →
    s.nx ≤ s'.nx ∧ Kept s.H s'.H ∧ ∃ G', (match evCode cx C nt n b { s with H := G } with | none => none | some (e1, s1) => k e1 s1) = some (e, ({ s' with H := G' } : St)) ∧ Ov s'.H G' X := by
   intro b k _ hk hh
   cases hb : evCode cx C nt n b s with
   | none => rw [hb] at hh; cases hh
   | some p =>
    obtain ⟨e1, s1⟩ := p
    rw [hb] at hh
    obtain ⟨q1, q2, G1, q3, q4⟩ := ih b s s1 e1 hb G X ho hX
    rw [q3]
    obtain ⟨r1, r2, G', r3, r4⟩ := hk e1 s1 G1 q1 q4 hh
    exact ⟨Nat.le_trans q1 r1, q2.trans r2, G', r3, r4⟩
  cases c with
  | skip => simp only [evCode] at h ⊢; exact same _ _ h rfl
  | label l => simp only [evCode] at h ⊢; exact same _ _ h rfl
  | exit id => simp only [evCode] at h ⊢; exact same _ _ h rfl
  | ret => simp only [evCode] at h ⊢; exact same _ _ h rfl
  | region id ops draw =>
   cases draw with
   | false =>
    simp only [evCode] at h ⊢
    cases hb : evOps cx C ops nt ops.toList s with
    | none => rw [hb] at h; cases h
    | some s1 =>
     rw [hb] at h; cases h
     obtain ⟨q1, q2, G1, q3, q4⟩ := evOps_mono hC _ s _ hb G X ho hX
     rw [q3]
     exact ⟨q1, q2, G1, rfl, q4⟩
   | true =>
    simp only [evCode] at h ⊢
    cases hb : evDraw cx C ops nt s with
    | none => rw [hb] at h; cases h
    | some s1 =>
     rw [hb] at h; cases h
     obtain ⟨q1, q2, G1, q3, q4⟩ := evDraw_mono hC hb ho hX
     rw [q3]
     exact ⟨q1, q2, G1, rfl, q4⟩
  | cond x a b =>
   simp only [evCode] at h ⊢
   cases hx : operandOk cx x && liveOp s.tm x with
   | false => rw [hx] at h; cases h
   | true =>
    rw [hx] at h
    simp only at h ⊢
    split at h
    ·rename_i t ht
     exact ih _ s s' e h G X ho hX
    ·cases h
  | seq a b =>
   simp only [evCode] at h ⊢
   cases hb : evCode cx C nt n a s with
   | none => rw [hb] at h; cases h
   | some p =>
    obtain ⟨e1, s1⟩ := p
    rw [hb] at h
    obtain ⟨q1, q2, G1, q3, q4⟩ := ih a s s1 e1 hb G X ho hX
    rw [q3]
    cases e1 with
    | normal =>
     simp only at h ⊢
     obtain ⟨r1, r2, G2, r3, r4⟩ := ih b s1 s' e h G1 X q4 (fun i hi => hX i (Nat.le_trans q1 hi))
     exact ⟨Nat.le_trans q1 r1, q2.trans r2, G2, r3, r4⟩
    | exit k => cases h; exact ⟨q1, q2, G1, rfl, q4⟩
    | ret => cases h; exact ⟨q1, q2, G1, rfl, q4⟩
  | loop b =>
   simp only [evCode] at h ⊢
   cases hb : evCode cx C nt n b s with
   | none => rw [hb] at h; cases h
   | some p =>
    obtain ⟨e1, s1⟩ := p
    rw [hb] at h
    obtain ⟨q1, q2, G1, q3, q4⟩ := ih b s s1 e1 hb G X ho hX
    rw [q3]
    cases e1 with
    | normal =>
     simp only at h ⊢
     obtain ⟨r1, r2, G2, r3, r4⟩ := ih (.loop b) s1 s' e h G1 X q4 (fun i hi => hX i (Nat.le_trans q1 hi))
     exact ⟨Nat.le_trans q1 r1, q2.trans r2, G2, r3, r4⟩
    | exit k => cases h; exact ⟨q1, q2, G1, rfl, q4⟩
    | ret => cases h; exact ⟨q1, q2, G1, rfl, q4⟩
  | block id b =>
   simp only [evCode] at h ⊢
   cases hb : evCode cx C nt n b s with
   | none => rw [hb] at h; cases h
   | some p =>
    obtain ⟨e1, s1⟩ := p
    rw [hb] at h
    obtain ⟨q1, q2, G1, q3, q4⟩ := ih b s s1 e1 hb G X ho hX
    rw [q3]
    cases e1 with
    | normal => cases h; exact ⟨q1, q2, G1, rfl, q4⟩
    | exit k =>
     simp only at h ⊢
     by_cases hk : k = id
     ·rw [if_pos hk] at h ⊢; cases h; exact ⟨q1, q2, G1, rfl, q4⟩
     ·rw [if_neg hk] at h ⊢; cases h; exact ⟨q1, q2, G1, rfl, q4⟩
    | ret => cases h; exact ⟨q1, q2, G1, rfl, q4⟩
  | rangeFunc f ps as b => simp [evCode] at h
  | scope b => simp [evCode] at h
  | goto l => simp [evCode] at h
  | refuse why => simp [evCode] at h
theorem evResults_mono {tm : T Value} {H G : Hp} {X : Nat → Option AObj} (ho : Ov H G X) : ∀ (l : List ResultVar) (vs : List Value), evResults cx tm H l = some vs → evResults cx tm G l = some vs
 | [], vs, h => h
 | r :: l, vs, h => by
  simp only [evResults] at h ⊢
  cases r with
  | tmp t =>
   simp only at h ⊢
   cases hlv : liveOp tm (.tmp t) with
   | false => rw [hlv] at h; cases h
   | true =>
   rw [hlv] at h
   simp only at h ⊢
   cases hl : evResults cx tm H l with
   | none => rw [hl] at h; cases h
   | some vs0 => rw [hl] at h; rw [evResults_mono ho l vs0 hl]; exact h
  | cell a t =>
   simp only at h ⊢
   cases he : aLoad cx t (St.eval tm (.tmp a)) H with
   | none => rw [he] at h; cases h
   | some p =>
    obtain ⟨r, H1⟩ := p
    rw [he] at h
    obtain ⟨_, G1, k2, _⟩ := aLoad_mono t _ H r H1 G X he ho
    dsimp only at k2
    rw [k2]
    cases r with
    | val v =>
     simp only at h ⊢
     cases hl : evResults cx tm H l with
     | none => rw [hl] at h; cases h
     | some vs0 => rw [hl] at h; rw [evResults_mono ho l vs0 hl]; exact h
    | _ => cases h
theorem evFunc_mono (hI : ∀ f g, cx.intr f = some g → MonoC (fun f' args H nx => if f' = f then g args H nx else none)) : ∀ n, MonoC (evFunc cx n)
 | 0 => fun f args H nx v H' nx' h => by simp [evFunc] at h
 | n + 1 => by
  have ih := evFunc_mono hI n
  intro f args H nx v H' nx' h G X ho hX
  simp only [evFunc] at h ⊢
  cases hi : cx.intr f with
  | some g =>
   rw [hi] at h
   have := hI f g hi f args H nx v H' nx' (by simp only [if_true]; exact h) G X ho hX
   simpa only [if_true] using this
  | none =>
   rw [hi] at h
   simp only at h ⊢
   cases hb : cx.body f with
   | none => rw [hb] at h; cases h
   | some fn =>
    rw [hb] at h
    simp only at h ⊢
    cases hbd : fn.body with
    | none => rw [hbd] at h; cases h
    | some c =>
     rw [hbd] at h
     simp only at h ⊢
     cases he : evCode cx (evFunc cx n) (max args.size fn.ntmps) n c { tm := T.setList (T.room (Nat.add (Nat.log2 (max args.size fn.ntmps)) 1)) 0 args.toList, H, nx } with
     | none => rw [he] at h; cases h
     | some p =>
      obtain ⟨e, s⟩ := p
      rw [he] at h
      obtain ⟨q1, q2, G1, q3, q4⟩ := evCode_mono ih n c _ s e he G X ho hX
      dsimp only at q3
      rw [q3]
      cases e with
      | exit id => cases h
      | normal =>
       simp only at h ⊢
       cases hl : evResults cx s.tm s.H fn.results.toList with
       | none => rw [hl] at h; cases h
       | some l => rw [hl] at h; rw [evResults_mono q4 _ l hl]; cases h; exact ⟨q1, q2, G1, rfl, q4⟩
      | ret =>
       simp only at h ⊢
       cases hl : evResults cx s.tm s.H fn.results.toList with
       | none => rw [hl] at h; cases h
       | some l => rw [hl] at h; rw [evResults_mono q4 _ l hl]; cases h; exact ⟨q1, q2, G1, rfl, q4⟩
end Go.Ev
