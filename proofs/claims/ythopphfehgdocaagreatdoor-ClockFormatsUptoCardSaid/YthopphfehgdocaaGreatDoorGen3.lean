import Derived.Test.YthopphfehgdocaaGreatDoorGen2
set_option linter.unusedSimpArgs false
set_option linter.unusedVariables false
namespace Go.Ev
open Go.RowKit
variable {cx : Cx}
theorem sim_makeMap (hc : CxOk cx) {B : Nat} {E : Env} {H : Hp} {w : World} {id : Nat} (hr : HR B cx.lo E H w) (he : E id = none) (hg : H.get id = none) (hl : cx.lo ≤ id) (t : TypeId) {res : ANext × Hp}
  (h : aMakeMap id H = some res) : Sim cx B E w id (do pure (Next.value (← Instr.makeMap t none))) res := by
 unfold aMakeMap rval at h
 cases h
 refine Sim.made (pl := newPlace w 0 0) (ob := .map #[] 0) (v' := .map (some w.heap.size)) hr he hg hl (by simp [Instr.makeMap]) rfl rfl rfl ?_ (.map id _ (Env.add_same _ _ _))
 unfold DatR
 exact ⟨#[], by show (w.heap.push _)[w.heap.size]? = _; simp, by simp, fun i e e' p => by simp at p⟩
theorem sim_makeInterface (hc : CxOk cx) {B : Nat} {E : Env} {H : Hp} {w : World} {id : Nat} (hr : HR B cx.lo E H w) {t : TypeId} {x x' : Value} {d : TypeDesc} (hu : cx.und t = some d) (hd : ∀ ms, d ≠ .interface ms) (hx : VR E x x') :
  Sim cx B E w id (do pure (Next.value (← Instr.makeInterface t x'))) (.val (.iface t x), H) := by
 refine Sim.val hr (v' := .iface t x') ?_ (.iface _ _ _ hx)
 cases d with
 | interface ms => exact absurd rfl (hd ms)
 | _ => simp [Instr.makeInterface, hc.run_und hu]
theorem AR.map {E : Env} {ρ ρ' : Operand → Value} (a : Array Operand) (h : ∀ x ∈ a.toList, VR E (ρ x) (ρ' x)) : AR E (a.map ρ) (a.map ρ') :=
 ⟨by simp, fun i v v' p q => by
  simp only [Array.getElem?_map, Option.map_eq_some_iff] at p q
  obtain ⟨x, p1, rfl⟩ := p
  obtain ⟨y, q1, rfl⟩ := q
  rw [p1] at q1; cases q1
  exact h x (by rw [← Array.getElem?_toList] at p1; exact List.mem_of_getElem? p1)⟩
theorem sim_extract {B : Nat} {E : Env} {H : Hp} {w : World} {id : Nat} (hr : HR B cx.lo E H w) {vs : Array Value} {k : Nat} {v x' : Value} (hx : VR E (.tuple vs) x') (h : vs[k]? = some v) :
  Sim cx B E w id (do pure (Next.value (← Instr.extract x' k))) (.val v, H) := by
 obtain ⟨vs', rfl, ha⟩ := hx.tuple_inv
 obtain ⟨v', q1, q2⟩ := ha.get h
 exact Sim.val hr (by simp [Instr.extract, q1]) q2
theorem VR.pair {E : Env} {a a' b b' : Value} (h : VR E a a') (k : VR E b b') : VR E (.tuple #[a, b]) (.tuple #[a', b']) :=
 .tuple _ _ rfl fun i v v' p q => by
  match i with
  | 0 => simp at p q; rw [← p, ← q]; exact h
  | 1 => simp at p q; rw [← p, ← q]; exact k
  | i + 2 => simp at p
theorem sim_typeAssert (hc : CxOk cx) {B : Nat} {E : Env} {H : Hp} {w : World} {id : Nat} (hr : HR B cx.lo E H w) {xt asserted : TypeId} {x x' : Value} {ok : Bool} {res : ANext × Hp} (hx : VR E x x')
  (h : aTypeAssert cx x asserted ok H = some res) : Sim cx B E w id (do pure (Next.value (← Instr.typeAssert x' xt asserted ok))) res := by
 have holds : ∀ v v' : Value, VR E v v' → ∀ s : Sem Value, s.run cx.P w = .ok (if ok then .tuple #[v', .bool true] else v') w → assertHolds v ok H = some res → Sim cx B E w id (do pure (Next.value (← s))) res := by
  intro v v' hv s hs he
  unfold assertHolds rval at he
  cases he
  refine Sim.val hr hs ?_
  cases ok
  ·exact hv
  ·exact hv.pair (.shut 1 _ rfl)
 have fails : ∀ s : Sem Value, (∀ z i, ok = true → cx.info asserted = some i → i.zero = some z → s.run cx.P w = .ok (.tuple #[z, .bool false]) w) →
   assertFails cx asserted ok H = some res → Sim cx B E w id (do pure (Next.value (← s))) res := by
  intro s hs he
  unfold assertFails rval at he
  split at he
  ·rename_i hi
   split at he
   ·rename_i z hz
    cases he
    exact Sim.val hr (hs z _ rfl hi hz) ((VR.of_shut E (hc.zero _ _ _ hi hz)).pair (.shut 1 _ rfl))
   ·cases he
  ·cases he
 unfold aTypeAssert at h
 cases hu : cx.und asserted with
 | none => rw [hu] at h; simp at h
 | some d =>
  rw [hu] at h
  cases x with
  | iface t v =>
   obtain ⟨v', rfl, hv⟩ := hx.iface_inv
   cases d with
   | interface want =>
    simp only at h
    cases hi : cx.info t with
    | none => rw [hi] at h; cases h
    | some i =>
     rw [hi] at h
     simp only at h
     cases hm : Instr.missingMethod want i.methods with
     | none =>
      rw [hm] at h
      refine holds _ (.iface t v') hx _ ?_ h
      simp [Instr.typeAssert, hc.run_und hu, hc.run_info hi, hm]
     | some m =>
      rw [hm] at h
      refine fails _ (fun z i2 e hi2 hz => ?_) h
      simp [Instr.typeAssert, hc.run_und hu, hc.run_info hi, hm, e, hc.run_zero hi2 hz]
   | _ =>
    simp only at h
    split at h
    ·rename_i e
     refine holds _ v' hv _ ?_ h
     simp [Instr.typeAssert, hc.run_und hu, e]
    ·rename_i e
     refine fails _ (fun z i2 e2 hi2 hz => ?_) h
     simp [Instr.typeAssert, hc.run_und hu, e, e2, hc.run_zero hi2 hz]
  | _ => cases d <;> simp at h
section
variable {P : Program} {w : World} {t : TypeId} (d : Nat)
theorem eqIn_pointer {e : TypeId} (und : (underlying t).run P w = .ok (.pointer e) w) (a b : Option Addr) :
  (Op.equalIn (d + 1) t (.pointer a) (.pointer b)).run P w = match a, b with
   | none, b => .ok b.isNone w
   | some _, none => .ok false w
   | some a, some b => (do if (← sizeOf e) ≠ 0 then sameAddr a b else if a == b then pure true else pure ((← choose .zeroSizeEq) = 1) : Sem Bool).run P w := by
 cases a <;> cases b <;> simp [Op.equalIn, und]
theorem eqIn_slice {e : TypeId} (und : (underlying t).run P w = .ok (.slice e) w) (a b : Option Addr) (l c l' c' : Nat) (h : a.isNone = true ∨ b.isNone = true) :
  (Op.equalIn (d + 1) t (.slice a l c) (.slice b l' c')).run P w = .ok (a.isNone && b.isNone) w := by
 cases a <;> cases b <;> simp at h <;> simp [Op.equalIn, und]
theorem eqIn_map {e f : TypeId} (und : (underlying t).run P w = .ok (.map e f) w) (a b : Option Nat) (h : a.isNone = true ∨ b.isNone = true) :
  (Op.equalIn (d + 1) t (.map a) (.map b)).run P w = .ok (a.isNone && b.isNone) w := by
 cases a <;> cases b <;> simp at h <;> simp [Op.equalIn, und]
theorem eqIn_func1 {e f : Array TypeId} {g : Bool} (und : (underlying t).run P w = .ok (.func e f g) w) (k : Fn) (a b : Array Value) :
  (Op.equalIn (d + 1) t (.func k a b) .nilFunc).run P w = .ok false w := by simp [Op.equalIn, und]
theorem eqIn_func2 {e f : Array TypeId} {g : Bool} (und : (underlying t).run P w = .ok (.func e f g) w) (k : Fn) (a b : Array Value) :
  (Op.equalIn (d + 1) t .nilFunc (.func k a b)).run P w = .ok false w := by simp [Op.equalIn, und]
theorem eqIn_iface1 {ms : Array (String × TypeId)} (und : (underlying t).run P w = .ok (.interface ms) w) (u : TypeId) (v : Value) :
  (Op.equalIn (d + 1) t (.iface u v) .nilIface).run P w = .ok false w := by simp [Op.equalIn, und]
theorem eqIn_iface2 {ms : Array (String × TypeId)} (und : (underlying t).run P w = .ok (.interface ms) w) (u : TypeId) (v : Value) :
  (Op.equalIn (d + 1) t .nilIface (.iface u v)).run P w = .ok false w := by simp [Op.equalIn, und]
end
theorem run_eqop {P : Program} {w : World} {t : TypeId} {neq b : Bool} {ox oy : Operand} {x y : Value} (hg : ∀ op, (eqGuard op t ox oy x y).run P w = .ok () w)
  (hb1 : binOp .eql t x y = (do pure (.bool (← Op.equal t x y)))) (hb2 : binOp .neq t x y = (do pure (.bool (!(← Op.equal t x y))))) (he : (Op.equalIn (9999 + 1) t x y).run P w = .ok b w) :
  ((do eqGuard (if neq then .neq else .eql) t ox oy x y; binOp (if neq then .neq else .eql) t x y : Sem Value)).run P w = .ok (.bool (b != neq)) w := by
 have he' : (Op.equal t x y).run P w = .ok b w := he
 cases neq with
 | false => simp only [Bool.false_eq_true, if_false, Sem.run_bind, hg, Result.andThen_ok, hb1, he']; simp
 | true => simp only [if_true, Sem.run_bind, hg, Result.andThen_ok, hb2, he']; simp
theorem sim_eq (hc : CxOk cx) {B : Nat} {E : Env} {H : Hp} {w : World} {id : Nat} (hr : HR B cx.lo E H w) {neq : Bool} {t : TypeId} {ox oy : Operand} {x y x' y' : Value} {res : ANext × Hp} (hx : VR E x x') (hy : VR E y y')
  (h : aEq cx neq t x y H = some res) :
  Sim cx B E w id (do pure (Next.value (← (do eqGuard (if neq then .neq else .eql) t ox oy x' y'; binOp (if neq then .neq else .eql) t x' y')))) res := by
 unfold aEq at h
 cases hn : nilEq x y with
 | none => rw [hn] at h; cases h
 | some b =>
  rw [hn] at h
  simp only at h
  have fin : ∀ s : Sem Value, s.run cx.P w = .ok (.bool (b != neq)) w → rval (.bool (b != neq)) H = some res → Sim cx B E w id (do pure (Next.value (← s))) res := by
   intro s hs he
   cases he
   exact Sim.val hr hs (.shut 1 _ rfl)
  cases hu : cx.und t with
  | none => rw [hu] at h; cases h
  | some d =>
   rw [hu] at h
   have und := hc.run_und hu w
   cases x with
   | pointer ax =>
    cases d with
    | pointer e =>
     simp only at h
     cases hi : cx.info e with
     | none => rw [hi] at h; cases h
     | some i =>
      rw [hi] at h
      simp only at h
      split at h
      ·cases h
      ·rename_i hsz
       refine fin _ ?_ h
       have shape : ∀ (a : Option Addr) (v' : Value), VR E (.pointer a) v' → ∃ a', v' = .pointer a' ∧ a'.isNone = a.isNone := by
        intro a v' k
        cases k with
        | shut d _ k => exact ⟨_, rfl, rfl⟩
        | ptr b o pl h => exact ⟨_, rfl, rfl⟩
       cases y with
       | pointer ay =>
        obtain ⟨ax', rfl, ex⟩ := shape _ _ hx
        obtain ⟨ay', rfl, ey⟩ := shape _ _ hy
        refine run_eqop (fun op => by cases op <;> rfl) rfl rfl ?_
        rw [eqIn_pointer 9999 und]
        cases ax with
        | none =>
         cases ax' with
         | some _ => cases ex
         | none =>
          unfold nilEq at hn
          simp at hn
          show Result.ok ay'.isNone w = _
          rw [ey, hn]
        | some ax =>
         cases ax' with
         | none => cases ex
         | some ax' =>
          cases ay with
          | none =>
           cases ay' with
           | some _ => cases ey
           | none =>
            unfold nilEq at hn
            simp at hn
            rw [← hn]
          | some ay =>
           cases ay' with
           | none => cases ey
           | some ay' =>
            unfold nilEq at hn
            simp only at hn
            split at hn
            ·rename_i hk
             simp only [Bool.and_eq_true] at hk
             obtain ⟨⟨k1, k2⟩, k3⟩ := hk
             obtain ⟨b1, o1, s1⟩ := ax
             obtain ⟨b2, o2, s2⟩ := ay
             have k1 : b1 = b2 := Nat.eq_of_beq_eq_true k1
             simp at k2 k3
             subst k1; subst k2; subst k3
             obtain ⟨pl, e1, q1⟩ := hx.ptr_inv
             obtain ⟨pl2, e2, q2⟩ := hy.ptr_inv
             rw [e1] at e2; cases e2
             cases q1; cases q2
             simp at hn
             have hb : ((⟨pl.cb, pl.sh + o1, none⟩ : Addr) == ⟨pl.cb, pl.sh + o2, none⟩) = b := by
              rw [← hn]
              by_cases e : o1 = o2
              ·subst e; simp
              ·have : (Nat.beq o1 o2) = false := by cases h : Nat.beq o1 o2 with
                | true => exact absurd (Nat.eq_of_beq_eq_true h) e
                | false => rfl
               rw [this]
               simp only [beq_eq_false_iff_ne, ne_eq, Addr.mk.injEq, true_and, and_true]
               omega
             simp [hc.run_size hi, hsz, sameAddr, hb]
            ·cases hn
       | _ => cases ax <;> simp [nilEq] at hn
    | _ => simp at h
   | slice ax lx cx' =>
    cases d with
    | slice e =>
     simp only at h
     refine fin _ ?_ h
     have shape : ∀ (a : Option Addr) (l c : Nat) (v' : Value), VR E (.slice a l c) v' → ∃ a' l' c', v' = .slice a' l' c' ∧ a'.isNone = a.isNone := by
      intro a l c v' k
      cases k with
      | shut d _ k => exact ⟨_, _, _, rfl, rfl⟩
      | slice b o l c c' a' pl h hl hc hx ha hf => exact ⟨_, _, _, rfl, rfl⟩
     cases y with
     | slice ay ly cy =>
      obtain ⟨ax', lx', cx'', rfl, ex⟩ := shape _ _ _ _ hx
      obtain ⟨ay', ly', cy', rfl, ey⟩ := shape _ _ _ _ hy
      refine run_eqop (fun op => by cases op <;> rfl) rfl rfl ?_
      have hb : (ax.isNone = true ∨ ay.isNone = true) ∧ b = (ax.isNone && ay.isNone) := by
       cases ax <;> cases ay <;> simp [nilEq] at hn <;> simp [hn]
      rw [eqIn_slice 9999 und _ _ _ _ _ _ (by rw [ex, ey]; exact hb.1), hb.2, ex, ey]
     | _ => cases ax <;> simp [nilEq] at hn
    | _ => simp at h
   | map ax =>
    cases d with
    | map e1 e2 =>
     simp only at h
     refine fin _ ?_ h
     have shape : ∀ (a : Option Nat) (v' : Value), VR E (.map a) v' → ∃ a', v' = .map a' ∧ a'.isNone = a.isNone := by
      intro a v' k
      cases k with
      | shut d _ k => exact ⟨_, rfl, rfl⟩
      | map b pl h => exact ⟨_, rfl, rfl⟩
     cases y with
     | map ay =>
      obtain ⟨ax', rfl, ex⟩ := shape _ _ hx
      obtain ⟨ay', rfl, ey⟩ := shape _ _ hy
      refine run_eqop (fun op => by cases op <;> rfl) rfl rfl ?_
      have hb : (ax.isNone = true ∨ ay.isNone = true) ∧ b = (ax.isNone && ay.isNone) := by
       cases ax <;> cases ay <;> simp [nilEq] at hn <;> simp [hn]
      rw [eqIn_map 9999 und _ _ (by rw [ex, ey]; exact hb.1), hb.2, ex, ey]
     | _ => cases ax <;> simp [nilEq] at hn
    | _ => simp at h
   | func f a b2 =>
    cases d with
    | func e1 e2 e3 =>
     simp only at h
     refine fin _ ?_ h
     cases y with
     | nilFunc =>
      obtain ⟨a', b', rfl, _, _⟩ := hx.func_inv
      have := hy.shut_eq 1 rfl; subst this
      simp [nilEq] at hn; subst hn
      exact run_eqop (fun op => by cases op <;> rfl) rfl rfl (eqIn_func1 9999 und _ _ _)
     | _ => simp [nilEq] at hn
    | _ => simp at h
   | nilFunc =>
    cases d with
    | func e1 e2 e3 =>
     simp only at h
     refine fin _ ?_ h
     cases y with
     | func f a b2 =>
      obtain ⟨a', b', rfl, _, _⟩ := hy.func_inv
      have := hx.shut_eq 1 rfl; subst this
      simp [nilEq] at hn; subst hn
      exact run_eqop (fun op => by cases op <;> rfl) rfl rfl (eqIn_func2 9999 und _ _ _)
     | _ => simp [nilEq] at hn
    | _ => simp at h
   | iface tx vx =>
    cases d with
    | interface ms =>
     simp only at h
     refine fin _ ?_ h
     cases y with
     | nilIface =>
      obtain ⟨v', rfl, _⟩ := hx.iface_inv
      have := hy.shut_eq 1 rfl; subst this
      simp [nilEq] at hn; subst hn
      exact run_eqop (fun op => by cases op <;> rfl) rfl rfl (eqIn_iface1 9999 und _ _)
     | _ => simp [nilEq] at hn
    | _ => simp at h
   | nilIface =>
    cases d with
    | interface ms =>
     simp only at h
     refine fin _ ?_ h
     cases y with
     | iface ty vy =>
      obtain ⟨v', rfl, _⟩ := hy.iface_inv
      have := hx.shut_eq 1 rfl; subst this
      simp [nilEq] at hn; subst hn
      exact run_eqop (fun op => by cases op <;> rfl) rfl rfl (eqIn_iface2 9999 und _ _)
     | _ => simp [nilEq] at hn
    | _ => simp at h
   | _ => cases d <;> simp at h
variable {cx : Cx}
def ELR (E : Env) (l l' : List MapEntry) : Prop := l'.length = l.length ∧ ∀ (i : Nat) e e', l[i]? = some e → l'[i]? = some e' → MR E e e'
theorem EntriesR.list {E : Env} {l : List MapEntry} {a : Array MapEntry} (h : EntriesR E l a) : ELR E l a.toList := ⟨by simpa using h.1, fun i e e' p q => h.2 i e e' p (by simpa using q)⟩
theorem sameNow_equal {P : Program} {w : World} {kt : TypeId} {kd : TypeDesc} {a b : Value} {r : Bool} (h : Instr.sameNow kd a b = some r) (hu : (underlying kt).run P w = .ok kd w) : (Op.equal kt a b).run P w = .ok r w := by
 have key : ∀ d, (Op.equalIn (d + 1) kt a b).run P w = .ok r w := by
  intro d
  unfold Instr.sameNow at h
  split at h
  ·rename_i x k a k' b
   split at h
   ·rename_i hk
    cases h
    simp [Op.equalIn, hu, hk]
   ·cases h
  ·cases h; simp [Op.equalIn, hu]
  ·cases h; simp [Op.equalIn, hu]
  ·cases h
 exact key 9999
def FR (E : Env) (l l' : List MapEntry) (i : Nat) : Option (Nat × MapEntry) → Option (Nat × Value) → Prop
 | none, none => True
 | some (n, e), some (n', v') => n = n' ∧ i ≤ n ∧ l[n - i]? = some e ∧ ∃ e', l'[n - i]? = some e' ∧ e'.val = v' ∧ e'.key = e.key ∧ VR E e.val v'
 | _, _ => False
theorem findIdx_spec {E : Env} {kt : TypeId} {kd : TypeDesc} {k : Value} {w : World} (hu : (underlying kt).run cx.P w = .ok kd w) : ∀ (l l' : List MapEntry) (i : Nat) (r : Option (Nat × MapEntry)), ELR E l l' → findIdx cx kt kd k l i = some r →
  ∃ r' : Option (Nat × Value), (Instr.findNow kd k l' i = some r' ∨ Instr.findNow kd k l' i = none) ∧ (Instr.findAsking kt k l' i).run cx.P w = .ok r' w ∧ FR E l l' i r r'
 | [], [], i, r, _, h => by
  simp only [findIdx] at h; cases h
  exact ⟨none, .inl rfl, rfl, trivial⟩
 | e :: l, e' :: l', i, r, hl, h => by
  have hm := hl.2 0 e e' rfl rfl
  have ht : ELR E l l' := ⟨by have := hl.1; simpa using this, fun j x x' p q => hl.2 (j + 1) x x' (by simpa using p) (by simpa using q)⟩
  simp only [findIdx] at h
  cases hs : shut e.key with
  | false => rw [hs] at h; cases h
  | true =>
   rw [hs] at h
   have hkey : e'.key = e.key := VR.shut_eq 60 hs hm.key
   cases hk : keySame cx kt kd k e.key with
   | none => rw [hk] at h; cases h
   | some b =>
    rw [hk] at h
    have hrun : (Op.equal kt k e'.key).run cx.P w = .ok b w := by
     rw [hkey]
     unfold keySame at hk
     split at hk
     ·rename_i b' hb; cases hk; exact sameNow_equal hb hu
     ·exact pureRun_sound hk w
    have hnow : Instr.sameNow kd k e'.key = some b ∨ Instr.sameNow kd k e'.key = none := by
     rw [hkey]
     unfold keySame at hk
     split at hk
     ·rename_i b' hb; cases hk; exact .inl hb
     ·rename_i hb; exact .inr hb
    cases b with
    | true =>
     simp only at h; cases h
     refine ⟨some (i, e'.val), ?_, ?_, rfl, Nat.le_refl _, by simp, e', by simp, rfl, hkey, hm.val⟩
     ·rcases hnow with q | q
      ·exact .inl (by simp [Instr.findNow, q])
      ·exact .inr (by simp [Instr.findNow, q])
     ·simp [Instr.findAsking, hrun]
    | false =>
     simp only at h
     obtain ⟨r', q1, q2, q3⟩ := findIdx_spec hu l l' (i + 1) r ht h
     refine ⟨r', ?_, ?_, ?_⟩
     ·rcases hnow with q | q
      ·rcases q1 with q1 | q1
       ·exact .inl (by simp [Instr.findNow, q, q1])
       ·exact .inr (by simp [Instr.findNow, q, q1])
      ·exact .inr (by simp [Instr.findNow, q])
     ·simp [Instr.findAsking, hrun, q2]
     ·cases r with
      | none => cases r' with
       | none => trivial
       | some _ => exact q3.elim
      | some p =>
       obtain ⟨n, x⟩ := p
       cases r' with
       | none => exact q3.elim
       | some p' =>
        obtain ⟨n', v'⟩ := p'
        obtain ⟨a1, a2, a3, x', a4, a5, a6, a7⟩ := q3
        refine ⟨a1, by omega, ?_, x', ?_, a5, a6, a7⟩
        ·rw [show n - i = (n - (i + 1)) + 1 by omega]; simpa using a3
        ·rw [show n - i = (n - (i + 1)) + 1 by omega]; simpa using a4
 | [], _ :: _, _, _, hl, _ => by have := hl.1; simp at this
 | _ :: _, [], _, _, hl, _ => by have := hl.1; simp at this
theorem findKey_spec {E : Env} {kt : TypeId} {kd : TypeDesc} {k : Value} {w : World} (hu : (underlying kt).run cx.P w = .ok kd w) {l : List MapEntry} {l' : List MapEntry} {r : Option (Nat × MapEntry)} (hl : ELR E l l') (h : findIdx cx kt kd k l 0 = some r) :
  ∃ r' : Option (Nat × Value), (Instr.findKey kt k l').run cx.P w = .ok r' w ∧ FR E l l' 0 r r' := by
 obtain ⟨r', q1, q2, q3⟩ := findIdx_spec (cx := cx) hu l l' 0 r hl h
 refine ⟨r', ?_, q3⟩
 unfold Instr.findKey
 simp only [Sem.run_bind, hu, Result.andThen_ok]
 rcases q1 with q1 | q1
 ·rw [q1]; rfl
 ·rw [q1]; exact q2
theorem getMap_spec {B lo : Nat} {E : Env} {H : Hp} {w : World} (hr : HR B lo E H w) {m : Nat} {es : List MapEntry} {clock : Nat} {pl : Place} (h : getMap H m = some (es, clock)) (he : E m = some pl) :
  ∃ ces, w.heap[pl.cb]? = some (.map ces clock) ∧ EntriesR E es ces ∧ ∃ ob, H.get m = some ob ∧ ob.dat = some (.map es clock) := by
 unfold getMap at h
 cases hg : H.get m with
 | none => rw [hg] at h; cases h
 | some ob =>
  rw [hg] at h
  simp only at h
  split at h
  ·rename_i es' clock' hd
   cases h
   obtain ⟨pl', e', d⟩ := hr.dat m ob hg
   rw [he] at e'; cases e'
   unfold DatR at d
   rw [hd] at d
   obtain ⟨ces, q1, q2⟩ := d
   exact ⟨ces, q1, q2, ob, rfl, hd⟩
  ·cases h
theorem run_getObj {P : Program} {w : World} {r : Nat} {o : Obj} (h : w.heap[r]? = some o) (hn : ∀ c e f, o ≠ .cells c e f) : (getObj r).run P w = .ok o w := by
 cases o with
 | cells c e f => exact absurd rfl (hn c e f)
 | _ => simp only [getObj, Sem.run, h]
def World.setO (w : World) (r : Nat) (o : Obj) : World := { w with heap := w.heap.setIfInBounds r o }
theorem run_setObj {P : Program} {w : World} {r : Nat} {o o' : Obj} (h : w.heap[r]? = some o) (hn : ∀ c e f, o ≠ .cells c e f) : (setObj r o').run P w = .ok () (World.setO w r o') := by
 cases o with
 | cells c e f => exact absurd rfl (hn c e f)
 | _ => simp only [setObj, Sem.run, h]; rfl
theorem setO_same {w : World} {r : Nat} {o : Obj} (h : r < w.heap.size) : (World.setO w r o).heap[r]? = some o := by simp [World.setO, h]
theorem setO_ne {w : World} {r k : Nat} {o : Obj} (h : k ≠ r) : (World.setO w r o).heap[k]? = w.heap[k]? := by simp [World.setO, Array.getElem?_setIfInBounds, Ne.symm h]
theorem setO_size {w : World} {r : Nat} {o : Obj} : (World.setO w r o).heap.size = w.heap.size := by simp [World.setO]
theorem setO_below {B : Nat} {w : World} {r : Nat} {o : Obj} (h : B ≤ r) : Below B w (World.setO w r o) :=
 ⟨rfl, rfl, rfl, by rw [setO_size]; exact Nat.le_refl _, fun k hk => setO_ne (by omega)⟩
theorem Sim.setObj {B : Nat} {E : Env} {H H' : Hp} {w : World} {id b : Nat} {d : AData} {o' : Obj} {s : Sem Next} {r : ANext} {x : Next} (hr : HR B cx.lo E H w) (hd : setDat cx H b d = some H') {pl : Place} (he : E b = some pl)
  (hs : s.run cx.P w = .ok x (World.setO w pl.cb o')) (hn : NR E r x)
  (hD : ∀ o2 : AObj, o2.dat = some d → DatR cx.lo E b o2 pl (World.setO w pl.cb o')) : Sim cx B E w id s (r, H') := by
 obtain ⟨pl', ob, g1, g2, g3, g4, g5, g6, K⟩ := setDat_spec hr hd
 rw [he] at g2; cases g2
 exact ⟨E, _, x, hs, hn, K _ (by rw [setO_size]; exact Nat.le_refl _) (fun k hk _ => setO_ne hk) (fun o2 e _ _ _ => hD o2 e), Env.le_refl E, fun _ _ => rfl, setO_below g4⟩
theorem mapEs_spec {B : Nat} {E : Env} {H : Hp} {w : World} (hr : HR B cx.lo E H w) {x x' : Value} {es : List MapEntry} (h : mapEs x H = some es) (hx : VR E x x') :
  ∃ ces : Array MapEntry, EntriesR E es ces ∧ ((x' = .map none ∧ ces = #[]) ∨ ∃ r clock, x' = .map (some r) ∧ w.heap[r]? = some (.map ces clock)) := by
 unfold mapEs at h
 split at h
 ·cases h
  have := hx.shut_eq 1 rfl; subst this
  exact ⟨#[], ⟨rfl, fun i e e' p => by simp at p⟩, .inl ⟨rfl, rfl⟩⟩
 ·rename_i m
  obtain ⟨pl, he, rfl⟩ := hx.map_inv
  cases hg : getMap H m with
  | none => rw [hg] at h; cases h
  | some p =>
   obtain ⟨es', clock⟩ := p
   rw [hg] at h; cases h
   obtain ⟨ces, q1, q2, _⟩ := getMap_spec hr hg he
   exact ⟨ces, q2, .inr ⟨_, clock, rfl, q1⟩⟩
 ·cases h
theorem sim_lookup (hc : CxOk cx) {B : Nat} {E : Env} {H : Hp} {w : World} {id : Nat} (hr : HR B cx.lo E H w) {t : TypeId} {x x' k k' : Value} {ok : Bool} {res : ANext × Hp} (hx : VR E x x') (hk : VR E k k')
  (h : aLookup cx t x k ok H = some res) : Sim cx B E w id (do pure (Next.value (← Instr.lookup t x' k' ok))) res := by
 unfold aLookup at h
 split at h
 ·rename_i kt elem hu
  split at h
  ·rename_i kd hkd hsk
   have := VR.shut_eq 60 hsk hk; subst this
   cases hes : mapEs x H with
   | none => rw [hes] at h; cases h
   | some es =>
    rw [hes] at h
    simp only at h
    obtain ⟨ces, q1, q2⟩ := mapEs_spec hr hes hx
    cases hck : pureRun cx.P (Instr.checkKey es.isEmpty 10000 kt k') with
    | none => rw [hck] at h; cases h
    | some u =>
     rw [hck] at h
     simp only at h
     have hemp : ces.isEmpty = es.isEmpty := by
      have := q1.1
      rw [Array.isEmpty, this]; cases es <;> rfl
     have hck' := pureRun_sound hck w
     rw [← hemp] at hck'
     cases hf : findIdx cx kt kd k' es 0 with
     | none => rw [hf] at h; cases h
     | some r =>
      rw [hf] at h
      obtain ⟨r', f1, f2⟩ := findKey_spec (hc.run_und hkd w) q1.list hf
      have run : ∀ (v' : Value) (b : Bool), (match r' with | some (_, v) => Result.ok (v, true) w | none => ((zeroValue elem).run cx.P w).andThen fun z w => .ok (z, false) w) = .ok (v', b) w →
        (Instr.lookup t x' k' ok).run cx.P w = .ok (if ok then .tuple #[v', .bool b] else v') w := by
       intro v' b hb
       unfold Instr.lookup
       have hgo : ∀ r0 clock, w.heap[r0]? = some (.map ces clock) → (getObj r0).run cx.P w = .ok (.map ces clock) w := fun r0 clock q => run_getObj q (fun _ _ _ => by simp)
       rcases q2 with ⟨rfl, hces⟩ | ⟨r0, clock, rfl, hr0⟩
       ·subst hces
        simp only [Sem.run_bind, hc.run_und hu, Result.andThen_ok, Sem.run_pure, hck', f1]
        cases r' with
        | none =>
         cases hz : (zeroValue elem).run cx.P w with
         | halt _ _ => rw [hz] at hb; cases hb
         | ok z w2 =>
          rw [hz] at hb
          cases hb
          simp [hz]
        | some p => cases hb; simp
       ·simp only [Sem.run_bind, hc.run_und hu, Result.andThen_ok, Sem.run_pure, hgo _ _ hr0, hck', f1]
        cases r' with
        | none =>
         cases hz : (zeroValue elem).run cx.P w with
         | halt _ _ => rw [hz] at hb; cases hb
         | ok z w2 =>
          rw [hz] at hb
          cases hb
          simp [hz]
        | some p => cases hb; simp
      cases r with
      | none =>
       cases r' with
       | some p => exact f2.elim
       | none =>
        simp only at h
        cases hi : cx.info elem with
        | none => rw [hi] at h; cases h
        | some i =>
         rw [hi] at h
         simp only at h
         cases hz : i.zero with
         | none => rw [hz] at h; cases h
         | some z =>
          rw [hz] at h
          cases h
          refine Sim.val hr (run z false (by simp [hc.run_zero hi hz])) ?_
          cases ok
          ·exact VR.of_shut E (hc.zero _ _ _ hi hz)
          ·exact (VR.of_shut E (hc.zero _ _ _ hi hz)).pair (.shut 1 _ rfl)
      | some p =>
       obtain ⟨n, e⟩ := p
       cases r' with
       | none => exact f2.elim
       | some p' =>
        obtain ⟨n', v'⟩ := p'
        obtain ⟨_, _, _, e', _, _, _, hv⟩ := f2
        simp only at h
        cases h
        refine Sim.val hr (run v' true rfl) ?_
        cases ok
        ·exact hv
        ·exact hv.pair (.shut 1 _ rfl)
  ·cases h
 ·cases h
theorem datR_map {lo : Nat} {E : Env} {b : Nat} {pl : Place} {w : World} {es : List MapEntry} {ces : Array MapEntry} {clock : Nat} (hb : pl.cb < w.heap.size) (h : EntriesR E es ces) (o2 : AObj) (hd : o2.dat = some (.map es clock)) :
  DatR lo E b o2 pl (World.setO w pl.cb (.map ces clock)) := by
 unfold DatR
 rw [hd]
 exact ⟨ces, setO_same hb, h⟩
theorem EntriesR.push {E : Env} {es : List MapEntry} {ces : Array MapEntry} (h : EntriesR E es ces) {e e' : MapEntry} (he : MR E e e') : EntriesR E (es ++ [e]) (ces.push e') :=
 ⟨by simp [h.1], fun i x x' p q => by
  by_cases hi : i < es.length
  ·rw [List.getElem?_append_left hi] at p
   rw [Array.getElem?_push, if_neg (by rw [h.1]; omega)] at q
   exact h.2 i x x' p q
  ·rw [List.getElem?_append_right (by omega)] at p
   have hi2 : i - es.length = 0 := by
    have := (List.getElem?_eq_some_iff.1 p).1; simp at this; omega
   rw [hi2] at p
   have hi3 : i = ces.size := by rw [h.1]; omega
   rw [hi3, Array.getElem?_push, if_pos rfl] at q
   simp at p
   cases q; rw [← p]; exact he⟩
theorem EntriesR.modify {E : Env} {es : List MapEntry} {ces : Array MapEntry} (h : EntriesR E es ces) (k : Nat) {f f' : MapEntry → MapEntry} (hf : ∀ e e', es[k]? = some e → MR E e e' → MR E (f e) (f' e')) : EntriesR E (es.modify k f) (ces.modify k f') :=
 ⟨by simp [h.1], fun i x x' p q => by
  rw [List.getElem?_modify] at p
  rw [Array.getElem?_modify] at q
  cases hx : es[i]? with
  | none => rw [hx] at p; cases p
  | some y =>
   rw [hx] at p
   have p : (if k = i then f y else y) = x := by simpa using p
   by_cases e : k = i
   ·subst e
    rw [if_pos rfl] at p q
    simp only [Option.map_eq_some_iff] at q
    obtain ⟨a', q1, rfl⟩ := q
    rw [← p]
    exact hf y a' hx (h.2 k y a' hx q1)
   ·rw [if_neg e] at p q
    rw [← p]
    exact h.2 i y x' hx q⟩
theorem keyThatStays_run {P : Program} {w : World} {old k : Value} (h : Instr.sameBits 10000 old k = true) : (Instr.keyThatStays old k).run P w = .ok k w := by
 unfold Instr.keyThatStays
 rw [h]; rfl
theorem sim_mapUpdate (hc : CxOk cx) {B : Nat} {E : Env} {H : Hp} {w : World} {id : Nat} (hr : HR B cx.lo E H w) {t : TypeId} {x x' k k' v v' : Value} {res : ANext × Hp} (hx : VR E x x') (hk : VR E k k') (hv : VR E v v')
  (h : aMapUpdate cx t x k v H = some res) : Sim cx B E w id (do Instr.mapUpdate t x' k' v'; pure .skip) res := by
 unfold aMapUpdate at h
 split at h
 ·rename_i kt elem m hu
  split at h
  ·rename_i kd hkd hsk
   have := VR.shut_eq 60 hsk hk; subst this
   obtain ⟨pl, he, rfl⟩ := hx.map_inv
   cases hg : getMap H m with
   | none => rw [hg] at h; cases h
   | some p =>
    obtain ⟨es, clock⟩ := p
    rw [hg] at h
    simp only at h
    obtain ⟨ces, q1, q2, _⟩ := getMap_spec hr hg he
    cases hck : pureRun cx.P (Instr.checkKey false 10000 kt k') with
    | none => rw [hck] at h; cases h
    | some u =>
     rw [hck] at h
     simp only at h
     have hck' := pureRun_sound hck w
     cases hf : findIdx cx kt kd k' es 0 with
     | none => rw [hf] at h; cases h
     | some r =>
      rw [hf] at h
      obtain ⟨r', f1, f2⟩ := findKey_spec (hc.run_und hkd w) q2.list hf
      have hb := hr.bound m pl he
      cases r with
      | none =>
       cases r' with
       | some p => exact f2.elim
       | none =>
        simp only [skipTo] at h
        cases hd : setDat cx H m (.map (es ++ [{ key := k', val := v, born := clock }]) (clock + 1)) with
        | none => rw [hd] at h; cases h
        | some H' =>
         rw [hd] at h; cases h
         refine Sim.setObj (o' := .map (ces.push { key := k', val := v', born := clock }) (clock + 1)) hr hd he (x := .skip) ?_ trivial (fun o2 e => datR_map hb (q2.push (e := { key := k', val := v, born := clock }) (e' := { key := k', val := v', born := clock }) ⟨hk, hv, rfl⟩) o2 e)
         simp [Instr.mapUpdate, hc.run_und hu, run_getObj q1 (fun _ _ _ => by simp), hck', f1, run_setObj q1 (fun _ _ _ => by simp)]
      | some p =>
       obtain ⟨n, e⟩ := p
       cases r' with
       | none => exact f2.elim
       | some p' =>
        obtain ⟨n', v0⟩ := p'
        obtain ⟨rfl, _, hn, e', hn', _, hkey, _⟩ := f2
        simp only at h
        cases hsb : Instr.sameBits 10000 e.key k' with
        | false => rw [hsb] at h; cases h
        | true =>
         rw [hsb] at h
         simp only [skipTo] at h
         cases hd : setDat cx H m (.map (es.modify n fun e => { e with key := k', val := v }) clock) with
         | none => rw [hd] at h; cases h
         | some H' =>
          rw [hd] at h; cases h
          have hcell : ces[n]? = some e' := by simpa using hn'
          refine Sim.setObj (o' := .map (ces.modify n fun e => { e with key := k', val := v' }) clock) hr hd he (x := .skip) ?_ trivial
           (fun o2 e2 => datR_map hb (q2.modify n (f := fun e => { e with key := k', val := v }) (f' := fun e => { e with key := k', val := v' }) (fun a a' _ ha => ⟨hk, hv, ha.born⟩)) o2 e2)
          simp [Instr.mapUpdate, hc.run_und hu, run_getObj q1 (fun _ _ _ => by simp), hck', f1, run_setObj q1 (fun _ _ _ => by simp), hcell, hkey, keyThatStays_run hsb]
  ·cases h
 ·cases h
variable {cx : Cx}
theorem sim_mapEntry (hc : CxOk cx) {B : Nat} {E : Env} {H : Hp} {w : World} {id : Nat} (hr : HR B cx.lo E H w) {t : TypeId} {x x' k k' : Value} {res : ANext × Hp} (hx : VR E x x') (hk : VR E k k')
  (h : aMapEntry cx t x k H = some res) : Sim cx B E w id (do pure (Next.value (← Instr.mapEntry t x' k'))) res := by
 unfold aMapEntry at h
 split at h
 ·rename_i kt elem m hu
  split at h
  ·rename_i kd hkd hsk
   have := VR.shut_eq 60 hsk hk; subst this
   obtain ⟨pl, he, rfl⟩ := hx.map_inv
   cases hg : getMap H m with
   | none => rw [hg] at h; cases h
   | some p =>
    obtain ⟨es, clock⟩ := p
    rw [hg] at h
    simp only at h
    obtain ⟨ces, q1, q2, _⟩ := getMap_spec hr hg he
    cases hck : pureRun cx.P (Instr.checkKey false 10000 kt k') with
    | none => rw [hck] at h; cases h
    | some u =>
     rw [hck] at h
     simp only at h
     have hck' := pureRun_sound hck w
     cases hf : findIdx cx kt kd k' es 0 with
     | none => rw [hf] at h; cases h
     | some r =>
      rw [hf] at h
      obtain ⟨r', f1, f2⟩ := findKey_spec (hc.run_und hkd w) q2.list hf
      have hb := hr.bound m pl he
      have hint : ∀ n : Nat, VR E (goInt n) (goInt n) := fun n => .shut 1 _ rfl
      cases r with
      | none =>
       cases r' with
       | some p => exact f2.elim
       | none =>
        simp only at h
        cases hi : cx.info elem with
        | none => rw [hi] at h; cases h
        | some i =>
         rw [hi] at h
         simp only at h
         cases hz : i.zero with
         | none => rw [hz] at h; cases h
         | some z =>
          rw [hz] at h
          simp only at h
          cases hsz : shut z with
          | false => rw [hsz] at h; cases h
          | true =>
           rw [hsz] at h
           simp only [valTo] at h
           cases hd : setDat cx H m (.map (es ++ [{ key := k', val := z, born := clock }]) (clock + 1)) with
           | none => rw [hd] at h; cases h
           | some H' =>
            rw [hd] at h; cases h
            refine Sim.setObj (o' := .map (ces.push { key := k', val := z, born := clock }) (clock + 1)) hr hd he (x := .value (.tuple #[z, goInt clock])) ?_ ((VR.of_shut E hsz).pair (hint _))
             (fun o2 e => datR_map hb (q2.push (e := { key := k', val := z, born := clock }) (e' := { key := k', val := z, born := clock }) ⟨hk, VR.of_shut E hsz, rfl⟩) o2 e)
            simp [Instr.mapEntry, hc.run_und hu, run_getObj q1 (fun _ _ _ => by simp), hck', f1, run_setObj q1 (fun _ _ _ => by simp), hc.run_zero hi hz]
      | some p =>
       obtain ⟨n, e⟩ := p
       cases r' with
       | none => exact f2.elim
       | some p' =>
        obtain ⟨n', v0⟩ := p'
        obtain ⟨rfl, _, hn, e', hn', hval, hkey, hv0⟩ := f2
        simp only at h
        cases hsb : Instr.sameBits 10000 e.key k' with
        | false => rw [hsb] at h; cases h
        | true =>
         rw [hsb] at h
         simp only [valTo] at h
         cases hd : setDat cx H m (.map (es.modify n fun e => { e with key := k' }) clock) with
         | none => rw [hd] at h; cases h
         | some H' =>
          rw [hd] at h; cases h
          have hcell : ces[n]? = some e' := by simpa using hn'
          have hborn : e'.born = e.born := (q2.2 n e e' (by simpa using hn) hcell).born
          refine Sim.setObj (o' := .map (ces.modify n fun e => { e with key := k' }) clock) hr hd he (x := .value (.tuple #[v0, goInt e.born])) ?_ (hv0.pair (hint _))
           (fun o2 e2 => datR_map hb (q2.modify n (f := fun e => { e with key := k' }) (f' := fun e => { e with key := k' }) (fun a a' _ ha => ⟨hk, ha.val, ha.born⟩)) o2 e2)
          simp [Instr.mapEntry, hc.run_und hu, run_getObj q1 (fun _ _ _ => by simp), hck', f1, run_setObj q1 (fun _ _ _ => by simp), hcell, hkey, keyThatStays_run hsb, hborn]
  ·cases h
 ·cases h
theorem findIdx?_born {E : Env} {es : List MapEntry} {ces : Array MapEntry} (h : EntriesR E es ces) (n : Int) : ces.findIdx? (fun e => (e.born : Int) == n) = es.findIdx? (fun e => (e.born : Int) == n) := by
 have key : ∀ (l l' : List MapEntry), ELR E l l' → l'.findIdx? (fun e => (e.born : Int) == n) = l.findIdx? (fun e => (e.born : Int) == n) := by
  intro l
  induction l with
  | nil => intro l' k; cases l' with
   | nil => rfl
   | cons a b => have := k.1; simp at this
  | cons a l ih =>
   intro l' k
   cases l' with
   | nil => have := k.1; simp at this
   | cons a' l' =>
    have hm := k.2 0 a a' rfl rfl
    have ht : ELR E l l' := ⟨by have := k.1; simpa using this, fun j x x' p q => k.2 (j + 1) x x' (by simpa using p) (by simpa using q)⟩
    rw [List.findIdx?_cons, List.findIdx?_cons, hm.born, ih l' ht]
 obtain ⟨l⟩ := ces
 rw [← key es l h.list]
 simp
theorem sim_entryStore (hc : CxOk cx) {B : Nat} {E : Env} {H : Hp} {w : World} {id : Nat} (hr : HR B cx.lo E H w) {t : TypeId} {x x' s s' v v' : Value} {res : ANext × Hp} (hx : VR E x x') (hs : VR E s s') (hv : VR E v v')
  (h : aEntryStore cx x s v H = some res) : Sim cx B E w id (do Instr.entryStore t x' s' v'; pure .skip) res := by
 unfold aEntryStore at h
 split at h
 ·rename_i m n hn
  obtain ⟨k, rfl⟩ := isSmallInt_spec hn
  have := hs.int_inv; subst this
  obtain ⟨pl, he, rfl⟩ := hx.map_inv
  cases hg : getMap H m with
  | none => rw [hg] at h; cases h
  | some p =>
   obtain ⟨es, clock⟩ := p
   rw [hg] at h
   simp only at h
   obtain ⟨ces, q1, q2, _⟩ := getMap_spec hr hg he
   have hb := hr.bound m pl he
   cases hf : es.findIdx? (fun e => (e.born : Int) == (n : Int)) with
   | none => rw [hf] at h; cases h
   | some i =>
    rw [hf] at h
    simp only [skipTo] at h
    cases hd : setDat cx H m (.map (es.modify i fun e => { e with val := v }) clock) with
    | none => rw [hd] at h; cases h
    | some H' =>
     rw [hd] at h; cases h
     have hf' := findIdx?_born q2 (n : Int)
     rw [hf] at hf'
     refine Sim.setObj (o' := .map (ces.modify i fun e => { e with val := v' }) clock) hr hd he (x := .skip) ?_ trivial
      (fun o2 e2 => datR_map hb (q2.modify i (f := fun e => { e with val := v }) (f' := fun e => { e with val := v' }) (fun a a' _ ha => ⟨ha.key, hv, ha.born⟩)) o2 e2)
     simp only [Instr.entryStore, Sem.run_bind, run_getObj q1 (fun _ _ _ => by simp), Result.andThen_ok, asInt, asIntOf, Sem.run_pure, hf', run_setObj q1 (fun _ _ _ => by simp)]
 ·cases h
theorem sim_range (hc : CxOk cx) {B : Nat} {E : Env} {H : Hp} {w : World} {id : Nat} (hr : HR B cx.lo E H w) (he : E id = none) (hg : H.get id = none) (hl : cx.lo ≤ id) {t : TypeId} {x x' : Value} {res : ANext × Hp} (hx : VR E x x')
  (h : aRange cx t x id H = some res) : Sim cx B E w id (do pure (Next.value (← Instr.range t x'))) res := by
 have hle : E.le (E.add id (newPlace w 0 0)) := Env.le_add _ _ _ he
 have mk : ∀ (d : AData) (ob : Obj) (s : Sem Value), s.run cx.P w = .ok (.pointer (some ⟨w.heap.size, 0, none⟩)) (w.alloc ob) → (∀ o2 : AObj, o2.dat = some d → DatR cx.lo (E.add id (newPlace w 0 0)) id o2 (newPlace w 0 0) (w.alloc ob)) →
   rval (addrV id 0) (H.set id { dat := some d, elem := 0, esz := 0, exact := true, root := id, kin := [id] }) = some res → Sim cx B E w id (do pure (Next.value (← s))) res := by
  intro d ob s hs hD h
  cases h
  exact Sim.made (pl := newPlace w 0 0) hr he hg hl hs rfl rfl rfl (hD _ rfl) (.ptr id 0 _ (Env.add_same _ _ _))
 have new : ∀ ob : Obj, (w.alloc ob).heap[w.heap.size]? = some ob := fun ob => by show (w.heap.push _)[w.heap.size]? = _; simp
 unfold aRange at h
 simp only at h
 split at h
 ·rename_i s hu
  have := hx.shut_eq 1 rfl; subst this
  refine mk (.strIter s 0) (.stringIter s 0) _ ?_ (fun o2 e => ?_) h
  ·simp [Instr.range, hc.run_und hu]
  ·unfold DatR; rw [e]; exact ⟨new _, rfl⟩
 ·rename_i k e hu
  have := hx.shut_eq 1 rfl; subst this
  refine mk (.mapIter none 0 #[] 0) (.mapIter none 0 #[] 0) _ ?_ (fun o2 e => ?_) h
  ·simp [Instr.range, hc.run_und hu]
  ·unfold DatR; rw [e]; exact ⟨none, new _, .shut 1 _ rfl, rfl⟩
 ·rename_i k e m hu
  obtain ⟨pl, hem, rfl⟩ := hx.map_inv
  cases hm : getMap H m with
  | none => rw [hm] at h; cases h
  | some p =>
   obtain ⟨es, clock⟩ := p
   rw [hm] at h
   simp only at h
   obtain ⟨ces, q1, q2, _⟩ := getMap_spec hr hm hem
   refine mk (.mapIter (some m) clock #[] clock) (.mapIter (some pl.cb) clock #[] clock) _ ?_ (fun o2 e => ?_) h
   ·simp [Instr.range, hc.run_und hu, run_getObj q1 (fun _ _ _ => by simp)]
   ·unfold DatR; rw [e]; exact ⟨some pl.cb, new _, .map m pl (hle _ _ hem), rfl⟩
 ·cases h
theorem filter_born {E : Env} (seen : Array Nat) : ∀ (l l' : List MapEntry), ELR E l l' → ELR E (l.filter fun e => !seen.contains e.born) (l'.filter fun e => !seen.contains e.born)
 | [], [], _ => ⟨rfl, fun i e e' p => by simp at p⟩
 | a :: l, a' :: l', k => by
  have hm := k.2 0 a a' rfl rfl
  have ht : ELR E l l' := ⟨by have := k.1; simpa using this, fun j x x' p q => k.2 (j + 1) x x' (by simpa using p) (by simpa using q)⟩
  have ih := filter_born seen l l' ht
  rw [List.filter_cons, List.filter_cons, hm.born]
  split
  ·exact ⟨congrArg (· + 1) ih.1, fun i e e' p q => by
    cases i with
    | zero => simp at p q; rw [← p, ← q]; exact hm
    | succ i => exact ih.2 i e e' (by simpa using p) (by simpa using q)⟩
  ·exact ih
 | [], _ :: _, k => by have := k.1; simp at this
 | _ :: _, [], k => by have := k.1; simp at this
theorem any_born {E : Env} (last : Nat) : ∀ (l l' : List MapEntry), ELR E l l' → l'.all (fun e => decide (e.born ≥ last)) = l.all (fun e => decide (e.born ≥ last))
 | [], [], _ => rfl
 | a :: l, a' :: l', k => by
  have hm := k.2 0 a a' rfl rfl
  have ht : ELR E l l' := ⟨by have := k.1; simpa using this, fun j x x' p q => k.2 (j + 1) x x' (by simpa using p) (by simpa using q)⟩
  rw [List.all_cons, List.all_cons, hm.born, any_born last l l' ht]
 | [], _ :: _, k => by have := k.1; simp at this
 | _ :: _, [], k => by have := k.1; simp at this
theorem VR.triple {E : Env} {a a' b b' c c' : Value} (h : VR E a a') (k : VR E b b') (l : VR E c c') : VR E (.tuple #[a, b, c]) (.tuple #[a', b', c']) :=
 .tuple _ _ rfl fun i v v' p q => by
  match i with
  | 0 => simp at p q; rw [← p, ← q]; exact h
  | 1 => simp at p q; rw [← p, ← q]; exact k
  | 2 => simp at p q; rw [← p, ← q]; exact l
  | i + 3 => simp at p
theorem sim_next (hc : CxOk cx) {B : Nat} {E : Env} {H : Hp} {w : World} {id : Nat} (hr : HR B cx.lo E H w) {t : TypeId} {x x' : Value} {str : Bool} {res : ANext × Hp} (hx : VR E x x')
  (h : aNextOp cx x str H = some res) : Sim cx B E w id (do pure (Next.value (← Instr.next x' str t))) res := by
 unfold aNextOp at h
 split at h
 ·rename_i r
  cases hg : H.get r with
  | none => rw [hg] at h; cases h
  | some ob =>
   rw [hg] at h
   simp only at h
   obtain ⟨pl, he, hx'⟩ := hx.ptr_inv
   obtain ⟨pl2, he2, hd⟩ := hr.dat r ob hg
   rw [he] at he2; cases he2
   have hb := hr.bound r pl he
   subst hx'
   split at h
   ·rename_i s pos hdat
    unfold DatR at hd
    rw [hdat] at hd
    obtain ⟨hd, hsh⟩ := hd
    rw [hsh]
    split at h
    ·rename_i hlt
     simp only [valTo] at h
     cases hs : setDat cx H r (.strIter s (pos + (Utf8.decode s pos).2)) with
     | none => rw [hs] at h; cases h
     | some H' =>
      rw [hs] at h; cases h
      refine Sim.setObj (o' := .stringIter s (pos + (Utf8.decode s pos).2)) hr hs he (x := .value (.tuple #[.bool true, goInt pos, .int .i32 (Utf8.decode s pos).1])) ?_ (VR.triple (.shut 1 _ rfl) (.shut 1 _ rfl) (.shut 1 _ rfl)) (fun o2 e => ?_)
      ·simp [Instr.next, run_getObj hd (fun _ _ _ => by simp), hlt, run_setObj hd (fun _ _ _ => by simp)]
      ·unfold DatR; rw [e]; exact ⟨setO_same hb, hsh⟩
    ·rename_i hlt
     cases h
     exact Sim.val hr (by simp [Instr.next, run_getObj hd (fun _ _ _ => by simp), hlt]) (.shut 3 _ rfl)
   ·rename_i since seen st hdat
    unfold DatR at hd
    rw [hdat] at hd
    obtain ⟨m', q, k, hsh⟩ := hd
    rw [hsh]
    have := k.shut_eq 1 rfl
    cases this
    cases h
    exact Sim.val hr (by simp [Instr.next, run_getObj q (fun _ _ _ => by simp)]) (.shut 3 _ rfl)
   ·rename_i m since seen last hdat
    unfold DatR at hd
    rw [hdat] at hd
    obtain ⟨m', q, k, hsh⟩ := hd
    rw [hsh]
    obtain ⟨plm, hem, km⟩ := k.map_inv
    cases km
    cases hm : getMap H m with
    | none => rw [hm] at h; cases h
    | some p =>
     obtain ⟨es, clock⟩ := p
     rw [hm] at h
     simp only at h
     obtain ⟨ces, q1, q2, _⟩ := getMap_spec hr hm hem
     have hemp : ces.isEmpty = es.isEmpty := by rw [Array.isEmpty, q2.1]; cases es <;> rfl
     have hall : ces.all (fun e => decide (e.born ≥ last)) = es.all (fun e => decide (e.born ≥ last)) := by rw [← any_born last es ces.toList q2.list]; simp
     split at h
     ·cases h
     ·rename_i hgd
      have hgd' : (!seen.isEmpty && !ces.isEmpty && ces.all fun e => decide (e.born ≥ last)) = false := by rw [hemp, hall]; simpa using hgd
      have hfl := filter_born seen es ces.toList q2.list
      have hfa : (ces.filter fun e => !seen.contains e.born) = (ces.toList.filter fun e => !seen.contains e.born).toArray := by
       apply Array.ext'; simp
      split at h
      ·rename_i hnil
       cases h
       rw [hnil] at hfl
       have hn : (ces.toList.filter fun e => !seen.contains e.born) = [] := by
        have := hfl.1
        exact List.length_eq_zero_iff.1 (by simpa using this)
       refine Sim.val hr ?_ (.shut 3 _ rfl)
       simp only [Instr.next, Sem.run_bind, run_getObj q (fun _ _ _ => by simp), run_getObj q1 (fun _ _ _ => by simp), Result.andThen_ok, hgd', Bool.false_eq_true, if_false, hfa, hn]
       simp [choose, Sem.run, Question.forced]
      ·rename_i e hone
       split at h
       ·rename_i hborn
        simp only [valTo] at h
        cases hs : setDat cx H r (.mapIter (some m) since (seen.push e.born) clock) with
        | none => rw [hs] at h; cases h
        | some H' =>
         rw [hs] at h; cases h
         rw [hone] at hfl
         obtain ⟨e', hn⟩ : ∃ e', (ces.toList.filter fun e => !seen.contains e.born) = [e'] := by
          have := hfl.1
          exact List.length_eq_one_iff.1 (by simpa using this)
         have hme : MR E e e' := hfl.2 0 e e' rfl (by rw [hn]; rfl)
         refine Sim.setObj (o' := .mapIter (some plm.cb) since (seen.push e.born) clock) hr hs he (x := .value (.tuple #[.bool true, e'.key, e'.val])) ?_ (VR.triple (.shut 1 _ rfl) hme.key hme.val) (fun o2 e2 => ?_)
         ·simp only [Instr.next, Sem.run_bind, run_getObj q (fun _ _ _ => by simp), run_getObj q1 (fun _ _ _ => by simp), Result.andThen_ok, hgd', Bool.false_eq_true, if_false, hfa, hn]
          have hb1 : e'.born < since := by rw [hme.born]; exact hborn
          have f1 : List.filter (fun x => decide (x.born < since)) [e'] = [e'] := by simp [hb1]
          have f2 : List.filter (fun x => decide (since ≤ x.born)) [e'] = [] := by simp [Nat.not_le.2 hb1]
          simp [choose, Sem.run, Question.forced, f1, f2, run_setObj q (fun _ _ _ => by simp), hme.born, Nat.not_le.2 hborn]
         ·unfold DatR; rw [e2]; exact ⟨some plm.cb, setO_same hb, .map m plm hem, hsh⟩
       ·cases h
      ·cases h
   ·cases h
 ·cases h
variable {cx : Cx}
theorem HR.addIn {B lo : Nat} {E : Env} {H : Hp} {w w' : World} (h : HR B lo E H w) {id r : Nat} {o ro : AObj} {pl : Place} (he : E id = none) (hg : H.get id = none) (hid : ∀ c oc, H.get c = some oc → c < id) (hl : lo ≤ id)
  (hr : H.get r = some ro) (hk : id ∈ ro.kin) (hroot : o.root = r) (hsize : w.heap.size ≤ w'.heap.size) (hB : B ≤ pl.cb) (hb : pl.cb < w'.heap.size)
  (keep : ∀ c oc plc, H.get c = some oc → E c = some plc → DatR lo E c oc plc w → DatR lo (E.add id pl) c oc plc w')
  (hd : DatR lo (E.add id pl) id o pl w')
  (share : ∀ c oc plc, H.get c = some oc → oc.dat ≠ none → lo ≤ c → E c = some plc → plc.cb = pl.cb → oc.root = r ∧ endOf oc plc ≤ endOf o pl) :
  HR B lo (E.add id pl) (H.set id o) w' where
 dat b x p := by
  rw [T.get_set] at p
  by_cases e : b = id
  ·subst e; rw [if_pos rfl] at p; cases p
   exact ⟨pl, Env.add_same _ _ _, hd⟩
  ·rw [if_neg e] at p
   obtain ⟨q, u, s⟩ := h.dat b x p
   exact ⟨q, by rw [Env.add_ne _ _ _ _ e]; exact u, keep b x q p u s⟩
 root b x p hx hb2 := by
  have hri : r ≠ id := by intro e; rw [e, hg] at hr; cases hr
  rw [T.get_set] at p
  by_cases e : b = id
  ·subst e; rw [if_pos rfl] at p; cases p
   exact ⟨ro, by rw [hroot, T.get_set_ne _ _ _ _ hri]; exact hr, hk⟩
  ·rw [if_neg e] at p
   obtain ⟨ro2, q, u⟩ := h.root b x p hx hb2
   have : x.root ≠ id := by intro e2; rw [e2, hg] at q; cases q
   exact ⟨ro2, by rw [T.get_set_ne _ _ _ _ this]; exact q, u⟩
 apart b1 b2 o1 o2 pl1 pl2 p1 p2 d1 d2 l1 lt e1 e2 ecb := by
  rw [T.get_set] at p1 p2
  by_cases k2 : b2 = id
  ·subst k2
   rw [if_pos rfl] at p2; cases p2
   rw [if_neg (by omega)] at p1
   rw [Env.add_same] at e2; cases e2
   rw [Env.add_ne _ _ _ _ (by omega)] at e1
   obtain ⟨q1, q2⟩ := share b1 o1 pl1 p1 d1 l1 e1 ecb
   exact ⟨by rw [q1, hroot], q2⟩
  ·rw [if_neg k2] at p2
   have := hid b2 o2 p2
   rw [if_neg (by omega)] at p1
   rw [Env.add_ne _ _ _ _ (by omega)] at e1
   rw [Env.add_ne _ _ _ _ k2] at e2
   exact h.apart b1 b2 o1 o2 pl1 pl2 p1 p2 d1 d2 l1 lt e1 e2 ecb
 bound b q e := by
  by_cases k : b = id
  ·subst k; rw [Env.add_same] at e; cases e; exact hb
  ·rw [Env.add_ne _ _ _ _ k] at e; exact Nat.lt_of_lt_of_le (h.bound b q e) hsize
 new b q e hb2 := by
  by_cases k : b = id
  ·subst k; rw [Env.add_same] at e; cases e; exact hB
  ·rw [Env.add_ne _ _ _ _ k] at e; exact h.new b q e hb2
 old b q e hb2 := by
  by_cases k : b = id
  ·subst k; omega
  ·rw [Env.add_ne _ _ _ _ k] at e; exact h.old b q e hb2
 base := Nat.le_trans h.base hsize
theorem growKin_spec {B lo : Nat} {E : Env} {H H2 : Hp} {w : World} {r id : Nat} {keep : Nat → Bool} (hr : HR B lo E H w) (hne : r ≠ id) (h : growKin H r id keep = some H2) :
  HR B lo E H2 w ∧ (∃ ro, H2.get r = some ro ∧ id ∈ ro.kin) ∧ (∀ c oc, H2.get c = some oc → ∃ oc0, H.get c = some oc0) ∧
   (∀ c oc, H2.get c = some oc → oc.dat ≠ none → lo ≤ c → oc.root = r → keep c = true ∧ ∃ oc0, H.get c = some oc0 ∧ oc0.dat = oc.dat ∧ oc0.root = oc.root) ∧
   (∀ c oc, H2.get c = some oc → oc.dat ≠ none → ∃ oc0, H.get c = some oc0 ∧ oc0.dat = oc.dat ∧ oc0.root = oc.root) := by
 unfold growKin at h
 cases hro : H.get r with
 | none => rw [hro] at h; cases h
 | some ro =>
  rw [hro] at h
  simp only at h
  cases hk : killAll H keep ro.kin with
  | none => rw [hk] at h; cases h
  | some H1 =>
   rw [hk] at h
   simp only at h
   obtain ⟨kd, kp, other⟩ := killAll_spec _ _ _ hk
   have hr1 := hr.killed kd
   cases hro1 : H1.get r with
   | none => rw [hro1] at h; cases h
   | some ro1 =>
    rw [hro1] at h
    cases h
    have hk1 : ro1.kin = ro.kin := by
     obtain ⟨o', x1, x2, x3, x4, x5⟩ := kd.get r ro hro
     rw [hro1] at x1; cases x1; exact x3
    have live : ∀ c oc, H1.get c = some oc → oc.dat ≠ none → H.get c = some oc ∧ ¬ (c ∈ ro.kin ∧ keep c = false) := by
     intro c oc p dn
     obtain ⟨o0, q⟩ := kd.back c oc p
     obtain ⟨o', x1, x2, x3, x4, x5⟩ := kd.get c o0 q
     rw [p] at x1; cases x1
     have : oc = o0 := x4.resolve_right dn
     exact ⟨by rw [this]; exact q, fun k => dn (x5 k)⟩
    have fam : ∀ c oc, H1.get c = some oc → oc.dat ≠ none → lo ≤ c → oc.root = r → c ∈ ro1.kin ∧ keep c = true := by
     intro c oc p dn hc hrt
     obtain ⟨ro2, q1, q2⟩ := hr1.root c oc p dn hc
     rw [hrt, hro1] at q1; cases q1
     refine ⟨q2, ?_⟩
     have := (live c oc p dn).2
     rw [hk1] at q2
     cases hkc : keep c with
     | true => rfl
     | false => exact absurd ⟨q2, hkc⟩ this
    have back : ∀ c oc, (H1.set r { ro1 with kin := id :: ro1.kin.filter keep }).get c = some oc → ∃ oc1, H1.get c = some oc1 ∧ oc1.dat = oc.dat ∧ oc1.root = oc.root := by
     intro c oc p
     rw [T.get_set] at p
     by_cases e : c = r
     ·subst e; rw [if_pos rfl] at p; cases p; exact ⟨ro1, hro1, rfl, rfl⟩
     ·rw [if_neg e] at p; exact ⟨oc, p, rfl, rfl⟩
    refine ⟨hr1.rekin hro1 (fun c oc p dn hc hrt => ?_), ⟨_, T.get_set_same _ _ _, List.mem_cons_self⟩, fun c oc p => ?_, fun c oc p dn hc hrt => ?_, fun c oc p dn => ?_⟩
    ·obtain ⟨q1, q2⟩ := fam c oc p dn hc hrt
     exact List.mem_cons_of_mem _ (List.mem_filter.2 ⟨q1, q2⟩)
    ·obtain ⟨oc1, q1, _⟩ := back c oc p
     exact kd.back c oc1 q1
    ·obtain ⟨oc1, q1, q2, q3⟩ := back c oc p
     have dn1 : oc1.dat ≠ none := by rw [q2]; exact dn
     obtain ⟨f1, f2⟩ := fam c oc1 q1 dn1 hc (by rw [q3]; exact hrt)
     exact ⟨f2, oc1, (live c oc1 q1 dn1).1, q2, q3⟩
    ·obtain ⟨oc1, q1, q2, q3⟩ := back c oc p
     exact ⟨oc1, (live c oc1 q1 (by rw [q2]; exact dn)).1, q2, q3⟩
theorem srcCells_spec (hc : CxOk cx) {B : Nat} {E : Env} {H : Hp} {w : World} (hr : HR B cx.lo E H w) {size n : Nat} {x x' : Value} {new : List Value} (hx : VR E x x') (hn : ∀ m, lenV x = some m → n ≤ m) (h : srcCells size n x H = some new) :
  ∃ new', LR E new new' ∧ ∀ w', (∀ p o, p < w.heap.size → w'.cell? ⟨p, o, none⟩ = w.cell? ⟨p, o, none⟩) → (Builtin.firstCells size n x').run cx.P w' = .ok new'.toArray w' := by
 unfold srcCells at h
 split at h
 ·cases h
  have := hx.shut_eq 1 rfl; subst this
  exact ⟨[], LR.nil E, fun w' _ => rfl⟩
 ·rename_i b o l c
  obtain ⟨pl, c', a', he, rfl, h0, h1, h2, h3, h4⟩ := hx.slice_inv
  have hnl := hn l rfl
  cases hz : Nat.beq (Nat.mul n size) 0 with
  | true =>
   rw [hz] at h
   cases h
   refine ⟨[], LR.nil E, fun w' _ => ?_⟩
   have : n * size = 0 := Nat.eq_of_beq_eq_true hz
   have e := run_loadCells_list (P := cx.P) w' a' [] (by simp)
   simp at e
   simp [Builtin.firstCells, this, e]
  | false =>
   rw [hz] at h
   have hne : n * size ≠ 0 := Nat.ne_of_beq_eq_false hz
   have hnpos : n ≠ 0 := by intro e; rw [e] at hne; simp at hne
   obtain ⟨pl', l', e1, e2, e3, e4⟩ := loadN_spec hr h
   rw [he] at e1; cases e1
   have ha := h3 (by omega)
   subst ha
   refine ⟨l', e3, fun w' hw' => ?_⟩
   have hb := hr.bound b pl he
   simp only [Builtin.firstCells]
   exact run_loadCells_at (l' := l') (by rw [← e3.1]; exact e2) (fun j v' q => by rw [hw' _ _ hb]; exact e4 j v' q) rfl
 ·rename_i s
  cases h
  have := hx.shut_eq 1 rfl; subst this
  refine ⟨_, ⟨rfl, fun i v v' p q => ?_⟩, fun w' _ => rfl⟩
  rw [p] at q; cases q
  have : ∃ k : UInt8, v = .int .u8 k.toNat := by
   simp only [Array.toList_map, List.getElem?_map, Option.map_eq_some_iff] at p
   obtain ⟨k, _, rfl⟩ := p
   exact ⟨k, rfl⟩
  obtain ⟨k, rfl⟩ := this
  exact .shut 1 _ rfl
 ·cases h
theorem lenV_run {E : Env} {x x' : Value} {n : Nat} {P : Program} {w : World} (hx : VR E x x') (h : lenV x = some n) : (Builtin.lenOf x').run P w = .ok n w := by
 unfold lenV at h
 split at h
 ·cases h
  cases hx with
  | shut d _ k => rfl
  | slice b o l c c' a' pl _ _ _ _ _ _ => rfl
 ·cases h
  have := hx.shut_eq 1 rfl; subst this
  rfl
 ·cases h
theorem growBy_le (newLen : Nat) : ∀ (r c : Nat), c ≤ newLen → Builtin.growBy newLen r c ≤ 2 * newLen + 192
 | 0, c, h => by simp only [Builtin.growBy]; omega
 | r + 1, c, h => by
  simp only [Builtin.growBy]
  split
  ·omega
  ·by_cases h2 : c + (c + 768) / 4 ≤ newLen
   ·exact growBy_le newLen r _ h2
   ·have : ∀ r d, newLen ≤ d → Builtin.growBy newLen r d = d := by
     intro r d hd
     cases r with
     | zero => rfl
     | succ r => simp only [Builtin.growBy]; rw [if_pos hd]
    rw [this _ _ (by omega)]
    omega
theorem nextslicecap_le (need old : Nat) (h : old < need) : Builtin.nextslicecap need old ≤ 2 * need + 1000 := by
 unfold Builtin.nextslicecap
 split
 ·omega
 ·split
  ·omega
  ·have := growBy_le need 4 old (by omega); omega
set_option maxHeartbeats 4000000 in
theorem run_append_in {P : Program} {w w' : World} {st : TypeId} {xt : Option TypeId} {ty elem : TypeId} {size n sLen cap : Nat} {base : Option Addr} {x : Value} {new : List Value} {argTypes : Array TypeId} {args : Array Value} (h0 : argTypes[0]? = some st) (h1 : argTypes[1]? = xt)
  (a0 : args[0]? = some (.slice base sLen cap)) (a1 : args[1]? = some x)
  (hu : (underlying st).run P w = .ok (.slice elem) w) (hs : (sizeOf elem).run P w = .ok size w) (hx : ∀ t, xt = some t → ∃ d, (underlying t).run P w = .ok d w ∧ ∀ k, d ≠ .int k) (hn : (Builtin.lenOf x).run P w = .ok n w)
  (hnew : (Builtin.firstCells size n x).run P w = .ok new.toArray w) (hcap : sLen + n ≤ cap)
  (hst : ∀ a, base = some a → (storeCells (a.add (sLen * size)) new).run P w = .ok () w') (hno : base = none → w' = w) :
  (Builtin.append_ argTypes ty args).run P w = .ok (.slice base (sLen + n) cap) w' := by
 have key : ∀ z : Sem Bool, (∀ w, z.run P w = .ok false w) → True := fun _ _ => trivial
 unfold Builtin.append_
 rw [h0, a0, a1, h1]
 cases xt with
 | none =>
  cases base with
  | none =>
   simp only [Sem.run_bind, Result.andThen_ok, Sem.run_pure, Sem.run_ite, hu, hs, hn, Bool.false_eq_true, if_false, hcap, if_true, hnew, Bool.not_false]
   rw [hno rfl]
  | some a =>
   simp only [Sem.run_bind, Result.andThen_ok, Sem.run_pure, Sem.run_ite, hu, hs, hn, Bool.false_eq_true, if_false, hcap, if_true, hnew, Bool.not_false, hst a rfl]
 | some t =>
  obtain ⟨d, q, r⟩ := hx t rfl
  cases base with
  | none =>
   cases d with
   | int k => exact absurd rfl (r k)
   | _ =>
    simp only [Sem.run_bind, Result.andThen_ok, Sem.run_pure, Sem.run_ite, hu, hs, hn, q, Bool.false_eq_true, if_false, hcap, if_true, hnew, Bool.not_false]
    rw [hno rfl]
  | some a =>
   cases d with
   | int k => exact absurd rfl (r k)
   | _ =>
    simp only [Sem.run_bind, Result.andThen_ok, Sem.run_pure, Sem.run_ite, hu, hs, hn, q, Bool.false_eq_true, if_false, hcap, if_true, hnew, Bool.not_false, hst a rfl]
set_option maxHeartbeats 4000000 in
theorem run_append_out {P : Program} {w : World} {st : TypeId} {xt : Option TypeId} {ty elem : TypeId} {ei : TypeInfo} {z : Value} {n sLen cap : Nat} {base : Option Addr} {x : Value} {old new : List Value} {argTypes : Array TypeId} {args : Array Value} (h0 : argTypes[0]? = some st) (h1 : argTypes[1]? = xt)
  (a0 : args[0]? = some (.slice base sLen cap)) (a1 : args[1]? = some x)
  (hu : ∀ w, (underlying st).run P w = .ok (.slice elem) w) (hi : ∀ w, (typeInfo elem).run P w = .ok ei w) (hs : ∀ w, (sizeOf elem).run P w = .ok ei.size w) (hz : ∀ w, (zeroValue elem).run P w = .ok z w)
  (hx : ∀ t, xt = some t → ∃ d, (∀ w, (underlying t).run P w = .ok d w) ∧ ∀ k, d ≠ .int k) (hn : (Builtin.lenOf x).run P w = .ok n w)
  (hnew : (Builtin.firstCells ei.size n x).run P w.drew = .ok new.toArray w.drew) (hold : (Builtin.firstCells ei.size sLen (.slice base sLen cap)).run P w.drew = .ok old.toArray w.drew) (hcap : cap < sLen + n)
  (hb : (2 * (sLen + n) + 1000) * ei.bytes ≤ 140737488355328) (hb1 : 1 ≤ ei.bytes) (hsz : z.cells.size = ei.size) (hol : old.length = sLen * ei.size) (hnl : new.length = n * ei.size) :
  ∃ newCap rest, sLen + n ≤ newCap ∧ (old ++ new ++ rest).length = newCap * ei.size ∧
   (Builtin.append_ argTypes ty args).run P w = .ok (.slice (some ⟨w.heap.size, 0, none⟩) (sLen + n) newCap) (w.drew.alloc (.cells (old ++ new ++ rest).toArray elem)) := by
 have hnc : ¬ 281474976710656 < Builtin.nextslicecap (sLen + n) cap * ei.bytes := by
  have := Go.nextslicecap_le hcap
  have h2 : Builtin.nextslicecap (sLen + n) cap * ei.bytes ≤ (2 * (sLen + n) + 1000) * ei.bytes := Nat.mul_le_mul_right _ (by omega)
  omega
 have hcp : ¬ sLen + n ≤ cap := by omega
 have hbz : ei.bytes ≠ 0 := by omega
 let c := (Question.appendCap (sLen + n) cap elem).cut (w.tape w.drawn (.appendCap (sLen + n) cap elem))
 have hc : sLen + n ≤ c := by show sLen + n ≤ (sLen + n) + _; omega
 refine ⟨c, (Builtin.zeroCells z.cells (c - (sLen + n))).toList, hc, ?_, ?_⟩
 ·simp only [List.length_append, hol, hnl, Builtin.zeroCells]
  simp [hsz]
  rw [← Nat.add_mul, ← Nat.add_mul]
  congr 1
  omega
 ·have harr : (old ++ new ++ (Builtin.zeroCells z.cells (c - (sLen + n))).toList).toArray = old.toArray ++ new.toArray ++ Builtin.zeroCells z.cells (c - (sLen + n)) := by
   apply Array.ext'; simp
  generalize (old ++ new ++ (Builtin.zeroCells z.cells (c - (sLen + n))).toList).toArray = R at harr ⊢
  generalize hcc : c = c1 at harr ⊢
  have hch : (choose (.appendCap (sLen + n) cap elem)).run P w = .ok c1 w.drew := by rw [← hcc]; simp [Question.forced, c]
  unfold Builtin.append_
  rw [h0, a0, a1, h1]
  cases xt with
  | none =>
   simp only [Sem.run_bind, Result.andThen_ok, Sem.run_pure, Sem.run_ite, hu, hs, hi, hn, Bool.false_eq_true, if_false, hcp, hbz, false_or, and_false, hnc, hch, run_askRoom, hold, hnew, hz, newRow, run_newObj, Bool.not_false, if_true, harr, gt_iff_lt, Nat.reducePow]
   rfl
  | some t =>
   obtain ⟨d, q, r⟩ := hx t rfl
   cases d with
   | int k => exact absurd rfl (r k)
   | _ =>
    simp only [Sem.run_bind, Result.andThen_ok, Sem.run_pure, Sem.run_ite, hu, hs, hi, hn, q, Bool.false_eq_true, if_false, hcp, hbz, false_or, and_false, hnc, hch, run_askRoom, hold, hnew, hz, newRow, run_newObj, Bool.not_false, if_true, harr, gt_iff_lt, Nat.reducePow]
    rfl
end Go.Ev
