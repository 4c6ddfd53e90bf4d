import Derived.Test.YthopphfehgdocaaGreatDoorGen1
import Derived.Laws.Tables
import Derived.IntWalk
set_option linter.unusedSimpArgs false
set_option linter.unusedVariables false
namespace Go.Ev
open Go.RowKit
structure CxOk (cx : Cx) : Prop where
 info : ∀ t i, cx.info t = some i → cx.P.info? t = some i
 body : ∀ f fn, cx.body f = some fn → cx.P.funcs[f]? = some fn
 mixed : cx.P.follows .mixedOrders = true
 name : ∀ f fn, cx.body f = some fn → (fn.name == "runtime.NumGoroutine") = false
 zero : ∀ t i z, cx.info t = some i → i.zero = some z → shut z = true
 wp : ∀ B w w', Below B w w' → cx.Wp B w → cx.Wp B w'
variable {cx : Cx}
theorem CxOk.und (h : CxOk cx) {t : TypeId} {d : TypeDesc} (e : cx.und t = some d) : cx.P.underlying t = some d := by
 unfold Cx.und at e
 unfold Program.underlying
 cases hi : cx.info t with
 | none => rw [hi] at e; cases e
 | some i =>
  rw [hi] at e
  rw [h.info _ _ hi]
  cases hd : i.desc with
  | named n u =>
   simp only [hd] at e
   cases hu : cx.info u with
   | none => rw [hu] at e; cases e
   | some j =>
    rw [hu] at e
    cases i
    simp only at hd
    subst hd
    simp only [h.info _ _ hu]
    exact e
  | _ =>
   simp only [hd] at e
   cases i
   simp only at hd
   subst hd
   exact e
theorem CxOk.run_und (h : CxOk cx) {t : TypeId} {d : TypeDesc} (e : cx.und t = some d) (w : World) : (underlying t).run cx.P w = .ok d w := by
 simp [underlying, h.und e]
theorem CxOk.run_info (h : CxOk cx) {t : TypeId} {i : TypeInfo} (e : cx.info t = some i) (w : World) : (typeInfo t).run cx.P w = .ok i w := by
 simp [typeInfo, h.info _ _ e]
theorem CxOk.run_size (h : CxOk cx) {t : TypeId} {i : TypeInfo} (e : cx.info t = some i) (w : World) : (sizeOf t).run cx.P w = .ok i.size w := by
 simp [sizeOf, h.run_info e]
theorem CxOk.run_zero (h : CxOk cx) {t : TypeId} {i : TypeInfo} {z : Value} (e : cx.info t = some i) (hz : i.zero = some z) (w : World) : (zeroValue t).run cx.P w = .ok z w := by
 simp [zeroValue, h.run_info e, hz]
theorem CxOk.run_agg (h : CxOk cx) {t : TypeId} {b : Bool} (e : cx.agg t = some b) (w : World) : (isAgg t).run cx.P w = .ok b w := by
 unfold Cx.agg at e
 cases hu : cx.und t with
 | none => rw [hu] at e; cases e
 | some d =>
  rw [hu] at e
  cases d <;> simp at e <;> subst e <;> simp [isAgg, h.run_und hu]
theorem pureRun_sound {α : Type} {P : Program} {s : Sem α} {a : α} (h : pureRun P s = some a) (w : World) : s.run P w = .ok a w := by
 induction s with
 | pure b => simp only [pureRun] at h; cases h; rfl
 | program k ih => simp only [pureRun] at h; simp only [Sem.run]; exact ih P h
 | mark m k ih => simp only [pureRun] at h; simp only [Sem.run]; exact ih h
 | choose q k ih =>
  simp only [pureRun] at h
  simp only [Sem.run]
  split at h
  ·rename_i hq; rw [if_pos hq]; exact ih 0 h
  ·cases h
 | _ => simp [pureRun] at h
def NR (E : Env) : ANext → Next → Prop
 | .val v, .value v' => VR E v v'
 | .skip, .skip => True
 | .enter f a, .enter g a' => f = g ∧ AR E a a'
 | _, _ => False
structure Step (B lo : Nat) (E : Env) (w : World) (id : Nat) (res : ANext × Hp) (E' : Env) (w' : World) (x : Next) : Prop where
 nr : NR E' res.1 x
 hr : HR B lo E' res.2 w'
 le : E.le E'
 off : ∀ i, i ≠ id → E' i = E i
 below : Below B w w'
def Sim (cx : Cx) (B : Nat) (E : Env) (w : World) (id : Nat) (s : Sem Next) (res : ANext × Hp) : Prop :=
 ∃ E' w' x, s.run cx.P w = .ok x w' ∧ Step B cx.lo E w id res E' w' x
theorem Sim.same {B : Nat} {E : Env} {w : World} {id : Nat} {s : Sem Next} {r : ANext} {H : Hp} {x : Next} (hr : HR B cx.lo E H w) (hs : s.run cx.P w = .ok x w) (hn : NR E r x) : Sim cx B E w id s (r, H) :=
 ⟨E, w, x, hs, hn, hr, Env.le_refl E, fun _ _ => rfl, Below.refl _ _⟩
theorem Sim.val {B : Nat} {E : Env} {w : World} {id : Nat} {s : Sem Value} {v v' : Value} {H : Hp} (hr : HR B cx.lo E H w) (hs : s.run cx.P w = .ok v' w) (hn : VR E v v') :
  Sim cx B E w id (do pure (Next.value (← s))) (.val v, H) :=
 Sim.same (x := .value v') hr (by simp [hs]) hn
theorem Sim.made {B : Nat} {E : Env} {w : World} {id : Nat} {s : Sem Value} {v : Value} {v' : Value} {H : Hp} {o : AObj} {pl : Place} {ob : Obj} (hr : HR B cx.lo E H w) (he : E id = none) (hg : H.get id = none) (hl : cx.lo ≤ id)
  (hs : s.run cx.P w = .ok v' (w.alloc ob)) (hroot : o.root = id) (hk : o.kin = [id]) (hcb : pl.cb = w.heap.size) (hd : DatR cx.lo (E.add id pl) id o pl (w.alloc ob)) (hv : VR (E.add id pl) v v') :
  Sim cx B E w id (do pure (Next.value (← s))) (.val v, H.set id o) :=
 ⟨E.add id pl, w.alloc ob, .value v', by simp [hs], hv, hr.alloc he hg hl hroot hk hcb hd, Env.le_add _ _ _ he, fun i hi => Env.add_ne _ _ _ _ hi, (Below.refl _ _).alloc hr.base _⟩
theorem readN_spec : ∀ (n : Nat) (cs : T Value) (o : Nat) (l : List Value), readN cs o n = some l → l.length = n ∧ ∀ j v, l[j]? = some v → cs.get (o + j) = some v
 | 0, cs, o, l, h => by simp only [readN] at h; cases h; exact ⟨rfl, fun j v p => by simp at p⟩
 | n + 1, cs, o, l, h => by
  simp only [readN] at h
  cases hc : cs.get o with
  | none => rw [hc] at h; cases h
  | some v =>
   rw [hc] at h
   cases hr : readN cs (Nat.add o 1) n with
   | none => rw [hr] at h; cases h
   | some r =>
    rw [hr] at h; cases h
    obtain ⟨q1, q2⟩ := readN_spec n cs _ r hr
    refine ⟨by simp [q1], fun j u p => ?_⟩
    cases j with
    | zero => simp at p; subst p; exact hc
    | succ j =>
     have := q2 j u (by simpa using p)
     rwa [show Nat.add o 1 + j = o + (j + 1) from by show o + 1 + j = _; omega] at this
theorem addr_add (a b n : Nat) : (⟨a, b, none⟩ : Addr).add n = ⟨a, b + n, none⟩ := by unfold Addr.add; split <;> simp_all
theorem loadN_spec {B : Nat} {E : Env} {H : Hp} {w : World} (hr : HR B cx.lo E H w) {b o n : Nat} {l : List Value} (h : loadN H b o n = some l) :
  ∃ pl l', E b = some pl ∧ l.length = n ∧ LR E l l' ∧ ∀ j v', l'[j]? = some v' → w.cell? ⟨pl.cb, pl.sh + o + j, none⟩ = some v' := by
 unfold loadN at h
 cases hb : H.get b with
 | none => rw [hb] at h; cases h
 | some ob =>
  rw [hb] at h
  obtain ⟨pl, he, hd⟩ := hr.dat b ob hb
  cases hdat : ob.dat with
  | none => simp [hdat] at h
  | some d =>
   cases d with
   | cells m cs =>
    simp only [hdat] at h
    unfold DatR at hd
    rw [hdat] at hd
    split at h
    ·rename_i hle
     have hle : o + n ≤ m := Nat.le_of_ble_eq_true hle
     obtain ⟨q1, q2⟩ := readN_spec n cs o l h
     have cell : ∀ j, j < n → ∃ v v', cs.get (o + j) = some v ∧ w.cell? ⟨pl.cb, pl.sh + (o + j), none⟩ = some v' ∧ VR E v v' := fun j hj => hd.cell (o + j) (by omega)
     refine ⟨pl, (List.range n).map (fun j => (w.cell? ⟨pl.cb, pl.sh + (o + j), none⟩).getD undef), he, q1, ⟨by simp [q1], fun j v v' p q => ?_⟩, fun j v' p => ?_⟩
     ·have hj : j < n := by rw [← q1]; exact (List.getElem?_eq_some_iff.1 p).1
      obtain ⟨u, u', x, y, z⟩ := cell j hj
      have := q2 j v p
      rw [x] at this; cases this
      simp [hj, y] at q
      rw [← q]; exact z
     ·have hj : j < n := by have := (List.getElem?_eq_some_iff.1 p).1; simpa using this
      obtain ⟨u, u', x, y, z⟩ := cell j hj
      simp [hj, y] at p
      rw [← p, ← y, Nat.add_assoc]
    ·cases h
   | _ => simp [hdat] at h
theorem asPtr_spec {p : Value} {b o : Nat} (h : asPtr p = some (b, o)) : p = .pointer (some ⟨b, o, none⟩) := by
 unfold asPtr at h
 split at h
 ·cases h; rfl
 ·cases h
theorem run_loadCells_at {P : Program} {w : World} {a : Addr} {l' : List Value} {n : Nat} (hn : l'.length = n) (h : ∀ j v', l'[j]? = some v' → w.cell? ⟨a.block, a.off + j, none⟩ = some v') (hs : a.spot = none) :
  (loadCells a n).run P w = .ok l'.toArray w := by
 subst hn
 refine run_loadCells_list w a l' (fun j v p => ?_)
 obtain ⟨b, o, s⟩ := a
 cases hs
 rw [addr_add]
 exact h j v p
theorem loadVar_spec (hc : CxOk cx) {B : Nat} {E : Env} {H : Hp} {w : World} (hr : HR B cx.lo E H w) {t : TypeId} {p p' v : Value} {H' : Hp} (hp : VR E p p') (h : aLoad cx t p H = some (.val v, H')) :
  ∃ a v', p' = .pointer (some a) ∧ (loadVar t a).run cx.P w = .ok v' w ∧ VR E v v' ∧ H' = H := by
 unfold aLoad at h
 cases ha : asPtr p with
 | none => rw [ha] at h; cases h
 | some bo =>
  obtain ⟨b, o⟩ := bo
  rw [ha] at h
  have := asPtr_spec ha
  subst this
  obtain ⟨pl, he, rfl⟩ := hp.ptr_inv
  simp only at h
  cases hg : cx.agg t with
  | none => rw [hg] at h; cases h
  | some g =>
   rw [hg] at h
   cases g with
   | true =>
    simp only at h
    cases hi : cx.info t with
    | none => rw [hi] at h; cases h
    | some i =>
     rw [hi] at h
     simp only at h
     cases hl : loadN H b o i.size with
     | none => rw [hl] at h; cases h
     | some l =>
      rw [hl] at h
      simp only [rval] at h
      cases h
      obtain ⟨pl', l', e1, e2, e3, e4⟩ := loadN_spec hr hl
      rw [he] at e1; cases e1
      refine ⟨_, .agg l'.toArray, rfl, ?_, .agg _ _ e3.array.1 e3.array.2, rfl⟩
      simp only [loadVar, Sem.run_bind, hc.run_agg hg, Result.andThen_ok, if_true, hc.run_size hi]
      rw [run_loadCells_at (l' := l') (by rw [← e3.1]; exact e2) (fun j v' q => e4 j v' q) rfl]
      rfl
   | false =>
    simp only at h
    cases hl : loadN H b o 1 with
    | none => rw [hl] at h; cases h
    | some l =>
     rw [hl] at h
     obtain ⟨pl', l', e1, e2, e3, e4⟩ := loadN_spec hr hl
     rw [he] at e1; cases e1
     match l, h, e2, e3 with
     | [u], h, _, e3 =>
      simp only [rval] at h
      cases h
      obtain ⟨u', q1, q2⟩ := e3.get (i := 0) rfl
      have hcell := e4 0 u' q1
      refine ⟨_, u', rfl, ?_, q2, rfl⟩
      simp only [loadVar, Sem.run_bind, hc.run_agg hg, Result.andThen_ok, Bool.false_eq_true, if_false, run_load]
      simp only [Nat.add_zero] at hcell
      rw [hcell]
theorem sim_load (hc : CxOk cx) {B : Nat} {E : Env} {H : Hp} {w : World} {id : Nat} (hr : HR B cx.lo E H w) {t : TypeId} {p p' : Value} {res : ANext × Hp} (hp : VR E p p') (h : aLoad cx t p H = some res) :
  Sim cx B E w id (do pure (Next.value (← Instr.loadAt t p'))) res := by
 have hv : ∃ v H', res = (.val v, H') := by
  unfold aLoad rval at h
  (repeat' split at h)
  all_goals first | (cases h; done) | (cases h; exact ⟨_, _, rfl⟩)
 obtain ⟨v, H', rfl⟩ := hv
 obtain ⟨a, v', rfl, q2, q3, rfl⟩ := loadVar_spec hc hr hp h
 exact Sim.val hr (by simp [Instr.loadAt, Instr.sureAddr, q2]) q3
variable {cx : Cx}
theorem isSingle_spec {b : Nat} {l : List Nat} (h : isSingle b l = true) : l = [b] := by
 match l, h with
 | [m], h => rw [Nat.eq_of_beq_eq_true h]
theorem alone_spec {B lo : Nat} {E : Env} {H H3 : Hp} {w : World} {b : Nat} {ob : AObj} {pl : Place} (hr : HR B lo E H w) (hg : H.get b = some ob) (hd : ob.dat ≠ none) (hlo : lo ≤ b) (he : E b = some pl)
  (h : alone H b ob = some H3) :
  HR B lo E H3 w ∧ (∃ o3, H3.get b = some o3 ∧ o3.dat = ob.dat ∧ o3.esz = ob.esz ∧ o3.exact = ob.exact ∧ o3.elem = ob.elem ∧ o3.root = ob.root) ∧
   (∀ c oc plc, H3.get c = some oc → oc.dat ≠ none → c ≠ b → E c = some plc → plc.cb ≠ pl.cb) := by
 have share : ∀ (H' : Hp) (ob' : AObj) (ro : AObj), HR B lo E H' w → H'.get b = some ob' → ob'.dat ≠ none → ob'.root = ob.root → H'.get ob.root = some ro → ro.kin = [b] →
   ∀ c oc plc, H'.get c = some oc → oc.dat ≠ none → c ≠ b → E c = some plc → plc.cb ≠ pl.cb := by
  intro H' ob' ro hr' hg' hd' hroot hro hkin c oc plc p dn ne e ecb
  have hlc : lo ≤ c := by
   rcases Nat.lt_or_ge c lo with q | q
   ·have := hr'.old c plc e q; have := hr'.new b pl he hlo; omega
   ·exact q
  have hrt : oc.root = ob.root := by
   rcases Nat.lt_or_ge c b with q | q
   ·have := (hr'.apart c b oc ob' plc pl p hg' dn hd' hlc q e he ecb).1; rw [this, hroot]
   ·have := (hr'.apart b c ob' oc pl plc hg' p hd' dn hlo (by omega) he e ecb.symm).1; rw [← this, hroot]
  obtain ⟨ro2, r2, k2⟩ := hr'.root c oc p dn hlc
  rw [hrt, hro] at r2
  cases r2
  rw [hkin] at k2
  exact ne (by simpa using k2)
 unfold alone at h
 cases hro : H.get ob.root with
 | none => rw [hro] at h; cases h
 | some ro =>
  rw [hro] at h
  simp only at h
  cases hs : isSingle b ro.kin with
  | true =>
   rw [hs] at h
   cases h
   exact ⟨hr, ⟨ob, hg, rfl, rfl, rfl, rfl, rfl⟩, share H ob ro hr hg hd rfl hro (isSingle_spec hs)⟩
  | false =>
   rw [hs] at h
   simp only at h
   cases hk : killAll H (fun m => Nat.beq m b) ro.kin with
   | none => rw [hk] at h; cases h
   | some H2 =>
    rw [hk] at h
    simp only at h
    obtain ⟨kd, keep, other⟩ := killAll_spec _ _ _ hk
    have hr2 := hr.killed kd
    have hg2 : H2.get b = some ob := by rw [keep b (by simp)]; exact hg
    cases hro2 : H2.get ob.root with
    | none => rw [hro2] at h; cases h
    | some ro2 =>
     rw [hro2] at h
     cases h
     have hk2 : ro2.kin = ro.kin := by
      obtain ⟨o', x1, x2, x3, x4, x5⟩ := kd.get _ ro hro
      rw [hro2] at x1; cases x1; exact x3
     have hr3 : HR B lo E (H2.set ob.root { ro2 with kin := [b] }) w := by
      refine hr2.rekin hro2 (fun c oc p dn hlc hrt => ?_)
      obtain ⟨ro', q1, q2⟩ := hr2.root c oc p dn hlc
      rw [hrt, hro2] at q1
      cases q1
      rw [hk2] at q2
      have : Nat.beq c b = true := by
       cases hcb : Nat.beq c b with
       | true => rfl
       | false =>
        obtain ⟨oo, y⟩ := kd.back c oc p
        obtain ⟨o', x1, x2, x3, x4, x5⟩ := kd.get c oo y
        rw [p] at x1; cases x1
        exact absurd (x5 ⟨q2, hcb⟩) dn
      rw [Nat.eq_of_beq_eq_true this]; simp
     have hg3 : ∃ o3, (H2.set ob.root { ro2 with kin := [b] }).get b = some o3 ∧ o3.dat = ob.dat ∧ o3.esz = ob.esz ∧ o3.exact = ob.exact ∧ o3.elem = ob.elem ∧ o3.root = ob.root := by
      by_cases e : b = ob.root
      ·have : ro2 = ob := by rw [← e, hg2] at hro2; cases hro2; rfl
       refine ⟨_, by rw [← e]; exact T.get_set_same _ _ _, ?_⟩
       rw [this]; exact ⟨rfl, rfl, rfl, rfl, rfl⟩
      ·exact ⟨ob, by rw [T.get_set_ne _ _ _ _ e]; exact hg2, rfl, rfl, rfl, rfl, rfl⟩
     obtain ⟨o3, g1, g2, g3, g4, g5, g6⟩ := hg3
     exact ⟨hr3, ⟨o3, g1, g2, g3, g4, g5, g6⟩, share _ o3 _ hr3 g1 (by rw [g2]; exact hd) g6 (T.get_set_same _ _ _) rfl⟩
theorem setDat_spec {B : Nat} {E : Env} {H H' : Hp} {w : World} {b : Nat} {d : AData} (hr : HR B cx.lo E H w) (h : setDat cx H b d = some H') :
  ∃ pl ob, H.get b = some ob ∧ E b = some pl ∧ cx.lo ≤ b ∧ B ≤ pl.cb ∧ pl.cb < w.heap.size ∧ DatR cx.lo E b ob pl w ∧
   ∀ w' : World, w.heap.size ≤ w'.heap.size → (∀ k, k ≠ pl.cb → k < w.heap.size → w'.heap[k]? = w.heap[k]?) →
    (∀ o' : AObj, o'.dat = some d → o'.esz = ob.esz → o'.exact = ob.exact → o'.elem = ob.elem → DatR cx.lo E b o' pl w') → HR B cx.lo E H' w' := by
 unfold setDat at h
 cases hl : Nat.ble cx.lo b with
 | false => rw [hl] at h; cases h
 | true =>
  rw [hl] at h
  have hlo : cx.lo ≤ b := Nat.le_of_ble_eq_true hl
  simp only at h
  cases hg : H.get b with
  | none => rw [hg] at h; cases h
  | some ob =>
   rw [hg] at h
   simp only at h
   cases hd : ob.dat with
   | none => rw [hd] at h; cases h
   | some d0 =>
    rw [hd] at h
    simp only at h
    cases ha : alone H b ob with
    | none => rw [ha] at h; cases h
    | some H3 =>
     rw [ha] at h
     simp only at h
     obtain ⟨pl, he, hdat⟩ := hr.dat b ob hg
     obtain ⟨hr3, ⟨o3, g1, g2, g3, g4, g5, g6⟩, hal⟩ := alone_spec hr hg (by rw [hd]; simp) hlo he ha
     rw [g1] at h
     cases h
     refine ⟨pl, ob, rfl, he, hlo, hr.new b pl he hlo, hr.bound b pl he, hdat, fun w' hs hk hD => ?_⟩
     exact hr3.update g1 he hlo rfl rfl hal (by rw [g2, hd]; simp) hs hk (hD _ rfl g3 g4 g5)
theorem setCells_size (b : Nat) : ∀ (vs : List Value) (o : Nat) (w : World), (w.setCells b o vs).heap.size = w.heap.size
 | [], _, _ => rfl
 | v :: r, o, w => by rw [World.setCells, setCells_size b r]; exact World.size_setCell _ _ _
theorem shape_setCell (w : World) (a : Addr) (v : Value) (k : Nat) : (w.setCell a v).shape? k = w.shape? k := by
 unfold World.shape? World.setCell
 simp only [Array.getElem?_modify]
 by_cases e : a.block = k
 ·rw [if_pos e]
  cases h : w.heap[k]? with
  | none => rfl
  | some o => cases o with
   | cells c t f => simp only [Option.map_some]; split <;> simp
   | _ => rfl
 ·rw [if_neg e]
theorem setCells_shape (b : Nat) : ∀ (vs : List Value) (o : Nat) (w : World) (k : Nat), (w.setCells b o vs).shape? k = w.shape? k
 | [], _, _, _ => rfl
 | v :: r, o, w, k => by rw [World.setCells, setCells_shape b r]; exact shape_setCell _ _ _ _
theorem shape_alloc_new (w : World) (c : Array Value) (t : TypeId) : (w.alloc (.cells c t)).shape? w.heap.size = some (t, c.size) := by
 have : (w.alloc (.cells c t)).heap[w.heap.size]? = some (.cells c t) := by show (w.heap.push _)[w.heap.size]? = _; simp
 unfold World.shape?; rw [this]
theorem setCells_below (B b : Nat) (hb : B ≤ b) : ∀ (vs : List Value) (o : Nat) (w : World), Below B w (w.setCells b o vs)
 | [], _, w => Below.refl _ _
 | v :: r, o, w => by rw [World.setCells]; exact ((Below.refl _ _).setCell (p := ⟨b, o, none⟩) hb v).trans (setCells_below B b hb r (o + 1) _)
theorem setCells_block (b : Nat) : ∀ (vs : List Value) (o : Nat) (w : World) (k : Nat), k ≠ b → (w.setCells b o vs).heap[k]? = w.heap[k]?
 | [], _, w, k, _ => rfl
 | v :: r, o, w, k, h => by rw [World.setCells, setCells_block b r (o + 1) _ k h, Below.heap_setCell _ _ _ _ h]
theorem storeN_spec {B : Nat} {E : Env} {H H' : Hp} {w : World} {b o : Nat} {vs vs' : List Value} (hr : HR B cx.lo E H w) (h : storeN cx H b o vs = some H') (hv : LR E vs vs') :
  ∃ pl w', E b = some pl ∧ B ≤ pl.cb ∧ (storeCells ⟨pl.cb, pl.sh + o, none⟩ vs').run cx.P w = .ok () w' ∧ HR B cx.lo E H' w' ∧ Below B w w' := by
 unfold storeN at h
 cases hg : H.get b with
 | none => rw [hg] at h; cases h
 | some ob =>
  rw [hg] at h
  simp only at h
  cases hd : ob.dat with
  | none => simp [hd] at h
  | some d =>
   cases d with
   | cells m cs =>
    simp only [hd] at h
    cases hle : (Nat.ble (Nat.add o vs.length) m && vs.all oneCell) with
    | false => rw [hle] at h; cases h
    | true =>
     rw [hle] at h
     rw [Bool.and_eq_true] at hle
     have hle' : o + vs.length ≤ m := Nat.le_of_ble_eq_true hle.1
     have h1 : ∀ v ∈ vs', v.oneCell' = true := by
      intro x hx
      obtain ⟨i, hi⟩ := List.getElem?_of_mem hx
      have hi' : i < vs.length := by rw [hv.1]; exact (List.getElem?_eq_some_iff.1 hi).1
      have := hv.2 i _ x (List.getElem?_eq_getElem hi') hi
      exact this.oneCell (by have := List.all_eq_true.1 hle.2 _ (List.getElem_mem hi'); exact this)
     obtain ⟨pl, ob2, g1, he, hlo, hB, hbd, hdat, K⟩ := setDat_spec hr h
     rw [hg] at g1; cases g1
     unfold DatR at hdat
     rw [hd] at hdat
     have hlen := hv.1
     have hst := run_storeCells_cells (P := cx.P) pl.cb (pl.sh + o) vs' 0 w
      (fun j hj => hdat.there _ (by have := hdat.fits; omega)) (fun j hj => hdat.soft hlo _ (by have := hdat.fits; omega)) h1
     refine ⟨pl, w.setCells pl.cb (pl.sh + o) vs', he, hB, by simpa using hst, ?_, setCells_below _ _ hB _ _ _⟩
     refine K _ (by rw [setCells_size]; exact Nat.le_refl _) (fun k hk _ => setCells_block _ _ _ _ _ hk) (fun o' e1 e2 e3 e4 => ?_)
     unfold DatR
     rw [e1]
     have hsome : ∀ k, k < pl.cap → ((w.setCells pl.cb (pl.sh + o) vs').cell? ⟨pl.cb, k, none⟩).isSome = true := by
      intro k hk
      by_cases hin : pl.sh + o ≤ k ∧ k < pl.sh + o + vs'.length
      ·obtain ⟨j, rfl⟩ : ∃ j, k = pl.sh + o + j := ⟨k - (pl.sh + o), by omega⟩
       rw [World.cell?_setCells_in pl.cb vs' (pl.sh + o) w (fun i hi => hdat.there _ (by have := hdat.fits; omega)) j (by omega)]
       rfl
      ·rw [World.cell?_setCells_out _ _ _ _ _ (fun _ _ => by show k < pl.sh + o ∨ _ ≤ k; omega)]
       exact hdat.there k hk
     refine ⟨hsome, fun _ k hk => by rw [World.frozen?_setCells]; exact hdat.soft hlo k hk, hdat.fits, by rw [e2]; exact hdat.esz, by rw [e3]; exact hdat.exact, fun hl => by rw [setCells_shape, e4, e3]; exact hdat.shape hl, fun i hi => ?_⟩
     rw [T.get_setList]
     by_cases hin : o ≤ i ∧ i < o + vs.length
     ·rw [if_pos hin]
      obtain ⟨j, rfl⟩ : ∃ j, i = o + j := ⟨i - o, by omega⟩
      have hj : j < vs.length := by omega
      have hj' : j < vs'.length := by omega
      refine ⟨vs[j], vs'[j], by rw [show o + j - o = j by omega]; exact List.getElem?_eq_getElem hj, ?_, hv.2 j _ _ (List.getElem?_eq_getElem hj) (List.getElem?_eq_getElem hj')⟩
      rw [← Nat.add_assoc]
      exact World.cell?_setCells_in pl.cb vs' (pl.sh + o) w (fun i hi => hdat.there _ (by have := hdat.fits; omega)) j hj'
     ·rw [if_neg hin]
      obtain ⟨v, v', p, q, r⟩ := hdat.cell i hi
      refine ⟨v, v', p, ?_, r⟩
      rw [World.cell?_setCells_out _ _ _ _ _ (fun _ _ => by show pl.sh + i < pl.sh + o ∨ _ ≤ pl.sh + i; omega)]
      exact q
   | _ => simp [hd] at h
theorem run_storeVar {w w' : World} (hc : CxOk cx) {t : TypeId} {i : TypeInfo} (hi : cx.info t = some i) {v : Value} (hv : v.cells.size = i.size) {a : Addr} (h : (storeCells a v.cells.toList).run cx.P w = .ok () w') :
  (storeVar t a v).run cx.P w = .ok () w' := by
 simp [storeVar, hc.run_size hi, hv, h]
theorem sim_store (hc : CxOk cx) {B : Nat} {E : Env} {H : Hp} {w : World} {id : Nat} (hr : HR B cx.lo E H w) {t : TypeId} {p p' v v' : Value} {res : ANext × Hp} (hp : VR E p p') (hv : VR E v v')
  (h : aStore cx t p v H = some res) : Sim cx B E w id (do Instr.storeAt t p' v'; pure .skip) res := by
 unfold aStore at h
 cases ha : asPtr p with
 | none => rw [ha] at h; cases h
 | some bo =>
  obtain ⟨b, o⟩ := bo
  rw [ha] at h
  have := asPtr_spec ha
  subst this
  obtain ⟨pl, he, rfl⟩ := hp.ptr_inv
  simp only at h
  cases hi : cx.info t with
  | none => rw [hi] at h; cases h
  | some i =>
   rw [hi] at h
   simp only at h
   cases hk : (Nat.beq v.cells.size i.size && v.cells.toList.all oneCell) with
   | false => rw [hk] at h; cases h
   | true =>
    rw [hk] at h
    simp only at h
    rw [Bool.and_eq_true] at hk
    cases hs : storeN cx H b o v.cells.toList with
    | none => rw [hs] at h; cases h
    | some H' =>
     rw [hs] at h
     cases h
     have hcl := hv.cells
     obtain ⟨pl', w', e1, hB, r1, r2, r3⟩ := storeN_spec hr hs hcl.list
     rw [he] at e1; cases e1
     refine ⟨E, w', .skip, ?_, trivial, r2, Env.le_refl E, fun _ _ => rfl, r3⟩
     have := run_storeVar (w := w) (w' := w') hc hi (v := v') (by rw [← hcl.1]; exact Nat.eq_of_beq_eq_true hk.1) r1
     simp [Instr.storeAt, Instr.sureAddr, this]
theorem datR_new {lo : Nat} {E : Env} {w : World} {id : Nat} {esz : Nat} {exact : Bool} {vs vs' : List Value} (hv : LR E vs vs') (elem' : TypeId) (pl : Place) (h1 : pl.cb = w.heap.size) (h2 : pl.sh = 0) (h3 : pl.cap = vs'.length)
  (h4 : pl.esz = esz) (h5 : pl.exact = exact) : DatR lo E id (mkCells id elem' esz exact vs) pl (w.alloc (.cells vs'.toArray elem')) := by
 unfold DatR mkCells
 refine ⟨fun k hk => ?_, fun _ k _ => ?_, by rw [h2, h3, hv.1]; omega, h4, h5, fun _ => ⟨_, by rw [h1, shape_alloc_new], fun _ => ⟨by simp [hv.1], h2⟩⟩, fun i hi => ?_⟩
 ·rw [h1, World.cell?_alloc_new]; simp; omega
 ·rw [h1]; exact World.frozen?_alloc_new w _ _ _
 ·have hi' : i < vs'.length := by rw [← hv.1]; exact hi
  refine ⟨vs[i], vs'[i], by rw [T.get_setList, if_pos (by omega)]; simp [hi], ?_, hv.2 i _ _ (List.getElem?_eq_getElem hi) (List.getElem?_eq_getElem hi')⟩
  rw [h1, h2, Nat.zero_add, World.cell?_alloc_new]; simp [hi']
def newPlace (w : World) (n esz : Nat) : Place := { cb := w.heap.size, sh := 0, cap := n, esz, exact := true }
theorem sim_new (hc : CxOk cx) {B : Nat} {E : Env} {H : Hp} {w : World} {id : Nat} (hr : HR B cx.lo E H w) (he : E id = none) (hg : H.get id = none) (hl : cx.lo ≤ id) {elem : TypeId} {esz : Nat} {v v' : Value} {s : Sem Value}
  (hv : AR E v.cells v'.cells) (hs : s.run cx.P w = .ok (.pointer (some ⟨w.heap.size, 0, none⟩)) (w.alloc (.cells v'.cells elem))) {res : ANext × Hp} (h : aNew id elem esz v.cells.toList H = some res) :
  Sim cx B E w id (do pure (Next.value (← s))) res := by
 unfold aNew rval at h
 cases h
 have hle := Env.le_add E id (newPlace w v'.cells.size esz) he
 refine Sim.made (pl := newPlace w v'.cells.size esz) (ob := .cells v'.cells elem) hr he hg hl hs rfl rfl rfl ?_ ?_
 ·have := datR_new (lo := cx.lo) (w := w) (id := id) (esz := esz) (exact := true) (hv.list.mono hle) elem (newPlace w v'.cells.size esz) rfl rfl (by simp [newPlace]) rfl rfl
  simpa using this
 ·exact .ptr id 0 _ (Env.add_same _ _ _)
theorem sim_alloc (hc : CxOk cx) {B : Nat} {E : Env} {H : Hp} {w : World} {id : Nat} (hr : HR B cx.lo E H w) (he : E id = none) (hg : H.get id = none) (hl : cx.lo ≤ id) {elem : TypeId} {res : ANext × Hp} (h : aAlloc cx elem id H = some res) : Sim cx B E w id (do pure (Next.value (← Instr.alloc elem true (.tuple #[])))) res := by
 unfold aAlloc at h
 cases hi : cx.info elem with
 | none => rw [hi] at h; cases h
 | some i =>
  rw [hi] at h
  simp only at h
  cases hzz : i.zero with
  | none => rw [hzz] at h; cases h
  | some z =>
   rw [hzz] at h
   exact sim_new hc hr he hg hl (VR.of_shut E (hc.zero _ _ _ hi hzz)).cells (by simp [Instr.alloc, hc.run_zero hi hzz, newVar, newRow]) h
theorem sim_box (hc : CxOk cx) {B : Nat} {E : Env} {H : Hp} {w : World} {id : Nat} (hr : HR B cx.lo E H w) (he : E id = none) (hg : H.get id = none) (hl : cx.lo ≤ id) {elem : TypeId} {v v' : Value} {res : ANext × Hp}
  (hv : VR E v v') (h : aBox cx elem v id H = some res) : Sim cx B E w id (do pure (Next.value (← Instr.box elem v'))) res := by
 unfold aBox at h
 cases hi : cx.info elem with
 | none => rw [hi] at h; cases h
 | some i =>
  rw [hi] at h
  exact sim_new hc hr he hg hl hv.cells (by simp [Instr.box, newVar, newRow]) h
variable {cx : Cx}
theorem AR.set {E : Env} {a a' : Array Value} (h : AR E a a') (k : Nat) {v v' : Value} (hv : VR E v v') : AR E (a.setIfInBounds k v) (a'.setIfInBounds k v') :=
 ⟨by simp [h.1], fun i x x' p q => by
  simp only [Array.getElem?_setIfInBounds] at p q
  by_cases e : k = i
  ·subst e
   rw [if_pos rfl] at p q
   split at p
   ·split at q
    ·cases p; cases q; exact hv
    ·cases q
   ·cases p
  ·rw [if_neg e] at p q
   exact h.2 i x x' p q⟩
theorem fillOne_rel {E : Env} (off : Nat) : ∀ (l l' : List Value) (j : Nat) (cs cs' : Array Value), LR E l l' → AR E cs cs' →
  AR E ((l.zipIdx j).foldl (fun cs (c, j) => cs.setIfInBounds (off + j) c) cs) ((l'.zipIdx j).foldl (fun cs (c, j) => cs.setIfInBounds (off + j) c) cs')
 | [], [], j, cs, cs', _, h => h
 | v :: l, v' :: l', j, cs, cs', hl, h => by
  simp only [List.zipIdx_cons, List.foldl_cons]
  exact fillOne_rel off l l' (j + 1) _ _ hl.tail (h.set _ hl.head)
 | [], _ :: _, _, _, _, hl, _ => by have := hl.1; simp at this
 | _ :: _, [], _, _, _, hl, _ => by have := hl.1; simp at this
def PartsR (E : Env) (l l' : List (Nat × Value)) : Prop := l.length = l'.length ∧ ∀ (i : Nat) p p', l[i]? = some p → l'[i]? = some p' → p.1 = p'.1 ∧ VR E p.2 p'.2
theorem zipIdx_foldl (v : Array Value) (off : Nat) (cs : Array Value) :
  v.zipIdx.foldl (fun cs (c, j) => cs.setIfInBounds (off + j) c) cs = (v.toList.zipIdx 0).foldl (fun cs (c, j) => cs.setIfInBounds (off + j) c) cs := by
 rw [← Array.foldl_toList]; simp
theorem fill_rel {E : Env} (place : Nat → Option (Nat × Nat)) : ∀ (l l' : List (Nat × Value)) (cs cs' r : Array Value), PartsR E l l' → AR E cs cs' → Instr.fill place cs l = some r →
  ∃ r', Instr.fill place cs' l' = some r' ∧ AR E r r'
 | [], [], cs, cs', r, _, h, e => by simp only [Instr.fill] at e; cases e; exact ⟨cs', rfl, h⟩
 | (i, v) :: l, (i', v') :: l', cs, cs', r, hl, h, e => by
  obtain ⟨e1, hv⟩ := hl.2 0 _ _ rfl rfl
  simp only at e1 hv
  subst e1
  simp only [Instr.fill] at e ⊢
  cases hp : place i with
  | none => rw [hp] at e; cases e
  | some os =>
   obtain ⟨off, size⟩ := os
   rw [hp] at e
   simp only at e ⊢
   have hc := hv.cells
   rw [← hc.1, ← h.1]
   split at e
   ·cases e
   ·rename_i hn
    rw [if_neg hn]
    refine fill_rel place l l' _ _ r ⟨by have := hl.1; simpa using this, fun k p p' x y => hl.2 (k + 1) p p' (by simpa using x) (by simpa using y)⟩ ?_ e
    rw [zipIdx_foldl, zipIdx_foldl]
    exact fillOne_rel off _ _ 0 _ _ hc.list h
 | [], _ :: _, _, _, _, hl, _, _ => by have := hl.1; simp at this
 | _ :: _, [], _, _, _, hl, _, _ => by have := hl.1; simp at this
theorem parts_map {E : Env} {ρ ρ' : Operand → Value} (parts : Array (Nat × Operand)) (h : ∀ p ∈ parts.toList, VR E (ρ p.2) (ρ' p.2)) :
  PartsR E (parts.map fun (i, x) => (i, ρ x)).toList (parts.map fun (i, x) => (i, ρ' x)).toList :=
 ⟨by simp, fun i p p' x y => by
  simp only [Array.toList_map, List.getElem?_map, Option.map_eq_some_iff] at x y
  obtain ⟨a, x1, rfl⟩ := x
  obtain ⟨a', y1, rfl⟩ := y
  rw [x1] at y1; cases y1
  exact ⟨rfl, h a (List.mem_of_getElem? x1)⟩⟩
theorem fieldPlaces_spec (hc : CxOk cx) : ∀ (fs : List Field) (l : List (Nat × Nat)), fieldPlaces cx fs = some l →
  fs.mapM (fun f => (cx.P.info? f.type).map fun i => (f.offset, i.size)) = some l
 | [], l, h => by simp only [fieldPlaces] at h; cases h; rfl
 | f :: r, l, h => by
  simp only [fieldPlaces] at h
  cases hi : cx.info f.type with
  | none => rw [hi] at h; cases h
  | some i =>
   rw [hi] at h
   simp only at h
   cases hr : fieldPlaces cx r with
   | none => rw [hr] at h; cases h
   | some l' =>
    rw [hr] at h; cases h
    rw [List.mapM_cons, fieldPlaces_spec hc r l' hr, hc.info _ _ hi]
    rfl
theorem sim_build (hc : CxOk cx) {B : Nat} {E : Env} {H : Hp} {w : World} {id : Nat} (hr : HR B cx.lo E H w) {t : TypeId} {parts parts' : Array (Nat × Value)} {res : ANext × Hp}
  (hp : PartsR E parts.toList parts'.toList) (h : aBuild cx t parts.toList H = some res) : Sim cx B E w id (do pure (Next.value (← Instr.build t parts'))) res := by
 unfold aBuild at h
 cases hi : cx.info t with
 | none => rw [hi] at h; cases h
 | some i =>
  rw [hi] at h
  simp only at h
  cases hz : i.zero with
  | none => rw [hz] at h; cases h
  | some z =>
   rw [hz] at h
   simp only at h
   have zr := (VR.of_shut E (hc.zero _ _ _ hi hz)).cells
   cases hu : cx.und t with
   | none => rw [hu] at h; cases h
   | some d =>
    rw [hu] at h
    cases d with
    | struct fields =>
     simp only at h
     cases hf : fieldPlaces cx fields.toList with
     | none => rw [hf] at h; cases h
     | some places =>
      rw [hf] at h
      simp only at h
      cases he : Instr.fill (places.toArray[·]?) z.cells parts.toList with
      | none => rw [he] at h; cases h
      | some cells =>
       rw [he] at h
       cases h
       obtain ⟨r', q1, q2⟩ := fill_rel _ _ _ _ _ _ hp zr he
       refine Sim.val hr (v' := .agg r') ?_ (.agg _ _ q2.1 q2.2)
       have := run_places (P := cx.P) w _ _ (fieldPlaces_spec hc _ _ hf)
       simp [Instr.build, hc.run_zero hi hz, hc.run_und hu, Array.mapM_eq_mapM_toList, this]
       simp at q1
       rw [q1]
       rfl
    | array n elem =>
     simp only at h
     cases hj : cx.info elem with
     | none => rw [hj] at h; cases h
     | some j =>
      rw [hj] at h
      simp only at h
      cases he : Instr.fill (fun k => some (k * j.size, j.size)) z.cells parts.toList with
      | none => rw [he] at h; cases h
      | some cells =>
       rw [he] at h
       cases h
       obtain ⟨r', q1, q2⟩ := fill_rel _ _ _ _ _ _ hp zr he
       refine Sim.val hr (v' := .agg r') ?_ (.agg _ _ q2.1 q2.2)
       simp [Instr.build, hc.run_zero hi hz, hc.run_und hu, hc.run_size hj, q1]
    | _ => simp at h
theorem zeros_AR {E : Env} {z : Array Value} (h : AR E z z) (n : Nat) (hs : 0 < n → z.size ≠ 0) : AR E ((Array.range n).map fun k => z[k % z.size]!) ((Array.range n).map fun k => z[k % z.size]!) :=
 ⟨rfl, fun i v v' p q => by
  rw [p] at q; cases q
  simp only [Array.getElem?_map, Option.map_eq_some_iff] at p
  obtain ⟨k, p1, rfl⟩ := p
  have hk : k < n := by
   obtain ⟨h1, h2⟩ := Array.getElem?_eq_some_iff.1 p1
   simp at h1 h2; omega
  have hlt : k % z.size < z.size := Nat.mod_lt _ (Nat.pos_of_ne_zero (hs (by omega)))
  rw [getElem!_pos z (k % z.size) hlt]
  exact h.2 _ _ _ (Array.getElem?_eq_getElem hlt) (Array.getElem?_eq_getElem hlt)⟩
theorem aPart_rel (hc : CxOk cx) {E : Env} {H H' : Hp} {t : TypeId} {cs cs' : Array Value} {off : Nat} {v : Value} (hcs : AR E cs cs') (h : aPart cx t cs off H = some (.val v, H')) (w : World) :
  H' = H ∧ ∃ v', (part t cs' off).run cx.P w = .ok v' w ∧ VR E v v' := by
 unfold aPart rval at h
 cases hg : cx.agg t with
 | none => rw [hg] at h; cases h
 | some g =>
  rw [hg] at h
  cases g with
  | true =>
   simp only at h
   cases hi : cx.info t with
   | none => rw [hi] at h; cases h
   | some i =>
    rw [hi] at h; cases h
    refine ⟨rfl, _, by simp [part, hc.run_agg hg, hc.run_size hi]; rfl, ?_⟩
    refine .agg _ _ (by simp [hcs.1]) (fun k x x' p q => ?_)
    simp only [Array.getElem?_extract] at p q
    rw [← hcs.1] at q
    split at p
    ·rename_i hk
     rw [if_pos hk] at q
     exact hcs.2 _ _ _ p q
    ·cases p
  | false =>
   simp only at h
   cases hx : cs[off]? with
   | none => rw [hx] at h; cases h
   | some x =>
    rw [hx] at h; cases h
    obtain ⟨v', q1, q2⟩ := hcs.get hx
    exact ⟨rfl, v', by simp [part, hc.run_agg hg, q1], q2⟩
theorem aPart_val {H : Hp} {t : TypeId} {cs : Array Value} {off : Nat} {res : ANext × Hp} (h : aPart cx t cs off H = some res) : ∃ v, res = (.val v, H) := by
 unfold aPart rval at h
 (repeat' split at h)
 all_goals first | (cases h; done) | (cases h; exact ⟨_, rfl⟩)
theorem sim_field (hc : CxOk cx) {B : Nat} {E : Env} {H : Hp} {w : World} {id : Nat} (hr : HR B cx.lo E H w) {t : TypeId} {x x' : Value} {k : Nat} {res : ANext × Hp}
  (hx : VR E x x') (h : aField cx t x k H = some res) : Sim cx B E w id (do pure (Next.value (← Instr.field t x' k))) res := by
 unfold aField at h
 cases hu : cx.und t with
 | none => rw [hu] at h; simp at h
 | some d =>
  rw [hu] at h
  cases d with
  | struct fields =>
   cases x with
   | agg cs =>
    simp only at h
    cases hf : fields[k]? with
    | none => rw [hf] at h; cases h
    | some f =>
     rw [hf] at h
     simp only at h
     obtain ⟨v, rfl⟩ := aPart_val h
     obtain ⟨cs', rfl, hcs⟩ := hx.agg_inv
     obtain ⟨_, v', q1, q2⟩ := aPart_rel hc hcs h w
     exact Sim.val hr (by simp [Instr.field, hc.run_und hu, hf, asAgg, q1]) q2
   | _ => simp at h
  | _ => simp at h
theorem isSmallInt_spec {v : Value} {n : Nat} (h : isSmallInt v = some n) : ∃ k, v = .int k n := by
 unfold isSmallInt at h
 cases v with
 | int k m => cases m with
  | ofNat m => simp at h; subst h; exact ⟨k, rfl⟩
  | negSucc m => simp at h
 | _ => simp at h
theorem VR.int_inv {E : Env} {k : IntKind} {n : Int} {v' : Value} (h : VR E (.int k n) v') : v' = .int k n := VR.shut_eq 1 rfl h
theorem sim_index (hc : CxOk cx) {B : Nat} {E : Env} {H : Hp} {w : World} {id : Nat} (hr : HR B cx.lo E H w) {t : TypeId} {x x' ix ix' : Value} {res : ANext × Hp}
  (hx : VR E x x') (hi : VR E ix ix') (h : aIndex cx t x ix H = some res) : Sim cx B E w id (do pure (Next.value (← Instr.index t x' ix'))) res := by
 unfold aIndex at h
 cases hu : cx.und t with
 | none => rw [hu] at h; simp at h
 | some d =>
  rw [hu] at h
  cases d with
  | array len elem =>
   cases x with
   | agg cs =>
    cases hs : isSmallInt ix with
    | none => rw [hs] at h; simp at h
    | some i =>
     rw [hs] at h
     simp only at h
     obtain ⟨k, rfl⟩ := isSmallInt_spec hs
     have := hi.int_inv; subst this
     cases hj : cx.info elem with
     | none => rw [hj] at h; cases h
     | some j =>
      rw [hj] at h
      simp only at h
      split at h
      ·rename_i hlt
       obtain ⟨v, rfl⟩ := aPart_val h
       obtain ⟨cs', rfl, hcs⟩ := hx.agg_inv
       obtain ⟨_, v', q1, q2⟩ := aPart_rel hc hcs h w
       refine Sim.val hr ?_ q2
       have : (i : Int) < (len : Int) := by omega
       simp [Instr.index, asIntOf, hc.run_und hu, this, hc.run_size hj, q1]
       intro hh; omega
      ·cases h
   | _ => simp at h
  | _ => simp at h
theorem sim_fieldAddr (hc : CxOk cx) {B : Nat} {E : Env} {H : Hp} {w : World} {id : Nat} (hr : HR B cx.lo E H w) {t : TypeId} {x x' : Value} {k : Nat} {res : ANext × Hp}
  (hx : VR E x x') (h : aFieldAddr cx t x k H = some res) : Sim cx B E w id (do pure (Next.value (← Instr.fieldAt t x' k))) res := by
 unfold aFieldAddr at h
 cases hu : cx.und t with
 | none => rw [hu] at h; simp at h
 | some d =>
  rw [hu] at h
  cases d with
  | struct fields =>
   cases ha : asPtr x with
   | none => rw [ha] at h; simp at h
   | some bo =>
    obtain ⟨b, o⟩ := bo
    rw [ha] at h
    have := asPtr_spec ha; subst this
    simp only at h
    cases hf : fields[k]? with
    | none => rw [hf] at h; cases h
    | some f =>
     rw [hf] at h
     simp only at h
     cases hi : cx.info f.type with
     | none => rw [hi] at h; cases h
     | some i =>
      rw [hi] at h
      simp only at h
      cases hz : Nat.beq i.size 0 with
      | true => rw [hz] at h; cases h
      | false =>
       rw [hz] at h
       cases h
       obtain ⟨pl, he, rfl⟩ := hx.ptr_inv
       refine Sim.val hr (v' := .pointer (some ⟨pl.cb, pl.sh + (o + f.offset), none⟩)) ?_ (.ptr b (o + f.offset) pl he)
       have hne : i.size ≠ 0 := Nat.ne_of_beq_eq_false hz
       simp [Instr.fieldAt, hc.run_und hu, hf, Instr.sureAddr, fieldPlace, hc.run_size hi, hne, addr_add, Nat.add_assoc]
  | _ => simp at h
theorem sim_indexAddr (hc : CxOk cx) {B : Nat} {E : Env} {H : Hp} {w : World} {id : Nat} (hr : HR B cx.lo E H w) {t : TypeId} {x x' ix ix' : Value} {res : ANext × Hp}
  (hx : VR E x x') (hix : VR E ix ix') (h : aIndexAddr cx t x ix H = some res) : Sim cx B E w id (do pure (Next.value (← Instr.indexAt t x' ix'))) res := by
 unfold aIndexAddr at h
 split at h
 ·rename_i len elem b o i hu hs
  obtain ⟨k, rfl⟩ := isSmallInt_spec hs
  have := hix.int_inv; subst this
  cases hj : cx.info elem with
  | none => rw [hj] at h; cases h
  | some j =>
   rw [hj] at h
   simp only at h
   split at h
   ·rename_i hlt
    cases h
    obtain ⟨pl, he, rfl⟩ := hx.ptr_inv
    refine Sim.val hr (v' := .pointer (some ⟨pl.cb, pl.sh + (o + i * j.size), none⟩)) ?_ (.ptr b (o + i * j.size) pl he)
    have : (i : Int) < (len : Int) := by omega
    simp [Instr.indexAt, asIntOf, hc.run_und hu, Instr.sureAddr, this, hc.run_size hj, addr_add, Nat.add_assoc]
    intro hh; omega
   ·cases h
 ·rename_i elem b o len c i hu hs
  obtain ⟨k, rfl⟩ := isSmallInt_spec hs
  have := hix.int_inv; subst this
  cases hj : cx.info elem with
  | none => rw [hj] at h; cases h
  | some j =>
   rw [hj] at h
   simp only at h
   split at h
   ·rename_i hlt
    cases h
    obtain ⟨pl, c', a', he, rfl, h0, h1, h2, h3, h4⟩ := hx.slice_inv
    have ha := h3 (by omega)
    subst ha
    refine Sim.val hr (v' := .pointer (some ⟨pl.cb, pl.sh + (o + i * j.size), none⟩)) ?_ (.ptr b (o + i * j.size) pl he)
    have : (i : Int) < (len : Int) := by omega
    simp [Instr.indexAt, asIntOf, hc.run_und hu, Instr.sureAddr, this, hc.run_size hj, addr_add, Nat.add_assoc]
    intro hh; omega
   ·cases h
 ·cases h
variable {cx : Cx}
theorem sim_buildSlice (hc : CxOk cx) {B : Nat} {E : Env} {H : Hp} {w : World} {id : Nat} (hr : HR B cx.lo E H w) (he : E id = none) (hg : H.get id = none) (hl : cx.lo ≤ id) {t : TypeId} {len : Nat} {parts parts' : Array (Nat × Value)} {res : ANext × Hp}
  (hp : PartsR E parts.toList parts'.toList) (h : aBuildSlice cx t len parts.toList id H = some res) : Sim cx B E w id (do pure (Next.value (← Instr.buildSlice t len parts'))) res := by
 unfold aBuildSlice at h
 cases hu : cx.und t with
 | none => rw [hu] at h; cases h
 | some d =>
  rw [hu] at h
  cases d with
  | slice elem =>
   simp only at h
   cases hi : cx.info elem with
   | none => rw [hi] at h; cases h
   | some i =>
    rw [hi] at h
    simp only at h
    cases hz : i.zero with
    | none => rw [hz] at h; cases h
    | some z =>
     rw [hz] at h
     simp only at h
     cases hk : (Nat.ble (len * i.size) 1048576 && !Nat.beq (len * i.size) 0 && Nat.beq z.cells.size i.size) with
     | false => rw [hk] at h; cases h
     | true =>
      rw [hk] at h
      simp only at h
      simp only [Bool.and_eq_true, Bool.not_eq_true'] at hk
      obtain ⟨⟨k1, k2⟩, k3⟩ := hk
      have k1 : len * i.size ≤ 1048576 := Nat.le_of_ble_eq_true k1
      have k2 : len * i.size ≠ 0 := Nat.ne_of_beq_eq_false k2
      have k3 : z.cells.size = i.size := Nat.eq_of_beq_eq_true k3
      have k4 : z.cells.size ≠ 0 := by intro e; rw [← k3, e] at k2; simp at k2
      cases hf : Instr.fill (fun k => some (k * i.size, i.size)) ((Array.range (len * i.size)).map fun k => z.cells[k % z.cells.size]!) parts.toList with
      | none => rw [hf] at h; cases h
      | some cells =>
       rw [hf] at h
       cases h
       obtain ⟨r', q1, q2⟩ := fill_rel _ _ _ _ _ _ hp (zeros_AR (VR.of_shut E (hc.zero _ _ _ hi hz)).cells _ (fun _ => k4)) hf
       have hle := Env.le_add E id (newPlace w r'.size i.size) he
       refine Sim.made (pl := newPlace w r'.size i.size) (ob := .cells r' elem) (v' := .slice (some ⟨w.heap.size, 0, none⟩) len len) hr he hg hl ?_ rfl rfl rfl ?_ ?_
       ·simp [Instr.buildSlice, hc.run_und hu, hc.run_size hi, hc.run_zero hi hz, show ¬ 2 ^ 24 < len * i.size by omega, k2, q1, newRow]
       ·have := datR_new (lo := cx.lo) (w := w) (id := id) (esz := i.size) (exact := true) (q2.list.mono hle) elem (newPlace w r'.size i.size) rfl rfl (by simp [newPlace]) rfl rfl
        simpa using this
       ·exact .slice id 0 len len len _ _ (Env.add_same _ _ _) (Nat.le_refl _) (Nat.le_refl _) (fun _ => rfl) (fun _ => rfl) (fun e => by cases e)
  | _ => simp at h
theorem optInt_spec {v : Option Value} {n : Option Nat} (h : optInt v = some n) : (v = none ∧ n = none) ∨ ∃ k m, v = some (.int k (m : Nat)) ∧ n = some m := by
 unfold optInt at h
 cases v with
 | none => simp at h; exact .inl ⟨rfl, h.symm⟩
 | some v =>
  simp only at h
  cases hs : isSmallInt v with
  | none => rw [hs] at h; cases h
  | some m =>
   rw [hs] at h
   cases h
   obtain ⟨k, rfl⟩ := isSmallInt_spec hs
   exact .inr ⟨k, m, rfl, rfl⟩
def OptR (E : Env) (v v' : Option Value) : Prop := match v, v' with
 | none, none => True
 | some a, some b => VR E a b
 | _, _ => False
theorem OptR.map {E : Env} {ρ ρ' : Operand → Value} (x : Option Operand) (h : ∀ a, x = some a → VR E (ρ a) (ρ' a)) : OptR E (x.map ρ) (x.map ρ') := by
 cases x with
 | none => trivial
 | some a => exact h a rfl
theorem OptR.int {E : Env} {v v' : Option Value} {n : Option Nat} (h : OptR E v v') (hn : optInt v = some n) : v' = v := by
 rcases optInt_spec hn with ⟨rfl, rfl⟩ | ⟨k, m, rfl, rfl⟩
 ·cases v' with
  | none => rfl
  | some x => exact h.elim
 ·cases v' with
  | none => exact h.elim
  | some x => rw [VR.int_inv h]
theorem run_sliceBound {P : Program} {w : World} {k : IntKind} {n y : Nat} (h : n ≤ y) (code : BoundsCode) : (Instr.sliceBound (.int k n) y code).run P w = .ok n w := by
 have : (n : Int) ≤ (y : Int) := by omega
 simp [Instr.sliceBound, asIntOf, this]
theorem run_bounds {P : Program} {w : World} {sl : Bool} {len cap cap' : Nat} {lo hi mx : Option Value} {l h m : Option Nat} {a b c : Nat} (hl : optInt lo = some l) (hh : optInt hi = some h) (hm : optInt mx = some m)
  (hb : aBounds len cap l h m = some (a, b, c)) (hcap : cap ≤ cap') :
  a ≤ b ∧ b ≤ c ∧ c ≤ cap ∧ (Instr.sliceBounds sl len cap' lo hi mx).run P w = .ok (a, b, if mx.isSome then c else cap') w ∧ (mx.isSome = false → c = cap) := by
 unfold aBounds at hb
 cases hh0 : hiOf len h m with
 | none => rw [hh0] at hb; cases hb
 | some h0 =>
  rw [hh0] at hb
  simp only at hb
  split at hb
  ·rename_i hk
   obtain ⟨k1, k2, k3⟩ := hk
   cases hb
   have k4 : b ≤ cap' := Nat.le_trans k1 (Nat.le_trans k3 hcap)
   have k5 : m.getD cap ≤ cap' := Nat.le_trans k3 hcap
   refine ⟨k2, k1, k3, ?_, ?_⟩
   ·rcases optInt_spec hl with ⟨rfl, rfl⟩ | ⟨kl, ml, rfl, rfl⟩ <;> rcases optInt_spec hh with ⟨rfl, rfl⟩ | ⟨kh, mh, rfl, rfl⟩ <;> rcases optInt_spec hm with ⟨rfl, rfl⟩ | ⟨km, mm, rfl, rfl⟩ <;>
     simp only [Option.getD_none, Option.getD_some, hiOf] at * <;> (try cases hh0) <;>
     simp [Instr.sliceBounds, run_sliceBound, k1, k2, k3, k4, k5, hcap]
   ·intro e
    rcases optInt_spec hm with ⟨rfl, rfl⟩ | ⟨km, mm, rfl, rfl⟩
    ·rfl
    ·cases e
  ·cases hb
theorem cellsR_of {B lo : Nat} {E : Env} {H : Hp} {w : World} (hr : HR B lo E H w) {b : Nat} {ob : AObj} {n : Nat} {cs : T Value} {pl : Place} (hg : H.get b = some ob) (hd : ob.dat = some (.cells n cs)) (he : E b = some pl) : CellsR lo E b ob pl w n cs := by
 obtain ⟨pl', e', d⟩ := hr.dat b ob hg
 rw [he] at e'; cases e'
 unfold DatR at d
 rw [hd] at d
 exact d
theorem sized_spec {B lo : Nat} {E : Env} {H : Hp} {w : World} (hr : HR B lo E H w) {b n : Nat} {pl : Place} (h : sized H b n = true) (he : E b = some pl) : pl.exact = false → pl.esz = n := by
 unfold sized at h
 cases hg : H.get b with
 | none => rw [hg] at h; cases h
 | some ob =>
  rw [hg] at h
  simp only at h
  cases hd : ob.dat with
  | none => simp [hd] at h
  | some d =>
   cases d with
   | cells m cs =>
    simp only [hd, Bool.or_eq_true] at h
    have c := cellsR_of hr hg hd he
    intro hx
    rcases h with h | h
    ·rw [c.exact, h] at hx; cases hx
    ·rw [c.esz, Nat.eq_of_beq_eq_true h]
   | _ => simp [hd] at h
theorem exactly_spec {B lo : Nat} {E : Env} {H : Hp} {w : World} (hr : HR B lo E H w) {b : Nat} {pl : Place} (h : exactly H b = true) (he : E b = some pl) : pl.exact = true := by
 unfold exactly at h
 cases hg : H.get b with
 | none => rw [hg] at h; cases h
 | some ob =>
  rw [hg] at h
  simp only at h
  cases hd : ob.dat with
  | none => simp [hd] at h
  | some d =>
   cases d with
   | cells m cs =>
    simp only [hd] at h
    rw [(cellsR_of hr hg hd he).exact, h]
   | _ => simp [hd] at h
theorem sim_slice (hc : CxOk cx) {B : Nat} {E : Env} {H : Hp} {w : World} {id : Nat} (hr : HR B cx.lo E H w) {t : TypeId} {x x' : Value} {lo hi mx lo' hi' mx' : Option Value} {res : ANext × Hp}
  (hx : VR E x x') (h1 : OptR E lo lo') (h2 : OptR E hi hi') (h3 : OptR E mx mx') (h : aSlice cx t x lo hi mx H = some res) : Sim cx B E w id (do pure (Next.value (← Instr.sliceAt t x' lo' hi' mx'))) res := by
 unfold aSlice at h
 split at h
 ·rename_i l hh m hl hhi hm
  have e1 := h1.int hl
  have e2 := h2.int hhi
  have e3 := h3.int hm
  subst e1; subst e2; subst e3
  split at h
  ·rename_i elem b o len cap hu
   split at h
   ·rename_i j a bb c hj hb
    cases hsz : sized H b j.size with
    | false => rw [hsz] at h; cases h
    | true =>
     rw [hsz] at h
     cases h
     obtain ⟨pl, c', a', he, rfl, g0, g1, g2, g3, g4⟩ := hx.slice_inv
     obtain ⟨p1, p2, p3, p4, p5⟩ := run_bounds (P := cx.P) (w := w) (sl := true) hl hhi hm hb g1
     have hesz := sized_spec hr hsz he
     let m' := if mx'.isSome then c else c'
     have hm1 : c ≤ m' := by show c ≤ if mx'.isSome then c else c'; split <;> omega
     have hm2 : m' ≤ c' := by show (if mx'.isSome then c else c') ≤ c'; split <;> omega
     have hm3 : pl.exact = true → m' = c := by
      intro e
      show (if mx'.isSome then c else c') = c
      split
      ·rfl
      ·rename_i hn
       rw [g2 e]
       exact (p5 (by simpa using hn)).symm
     refine Sim.val hr (v' := .slice (if m' = a then some a' else (some a').map (·.add (a * j.size))) (bb - a) (m' - a)) ?_ ?_
     ·simp [Instr.sliceAt, hc.run_und hu, Instr.slice, p4, hc.run_size hj, m']
     ·show VR E (.slice (some ⟨b, o + a * j.size, none⟩) (bb - a) (c - a)) _
      have key : ∀ a2 : Addr, (m' - a ≠ 0 → a2 = ⟨pl.cb, pl.sh + (o + a * j.size), none⟩) → VR E (.slice (some ⟨b, o + a * j.size, none⟩) (bb - a) (c - a)) (.slice (some a2) (bb - a) (m' - a)) := by
       intro a2 ha2
       refine .slice b _ _ _ _ a2 pl he (by omega) (by omega) (fun e => by rw [hm3 e]) ha2 (fun e => ?_)
       have := g4 e
       rw [hesz e] at this ⊢
       have hmul : a * j.size + (m' - a) * j.size ≤ c' * j.size := by rw [← Nat.add_mul]; exact Nat.mul_le_mul_right _ (by omega)
       omega
      split
      ·exact key _ (fun hne => by omega)
      ·rename_i hne
       refine key _ (fun hne2 => ?_)
       rw [g3 (by omega)]
       simp [addr_add, Nat.add_assoc]
   ·cases h
  ·rename_i n elem b o hu
   split at h
   ·rename_i j a bb c hj hb
    cases hsz : exactly H b with
    | false => rw [hsz] at h; cases h
    | true =>
     rw [hsz] at h
     cases h
     obtain ⟨pl, he, rfl⟩ := hx.ptr_inv
     obtain ⟨p1, p2, p3, p4, p5⟩ := run_bounds (P := cx.P) (w := w) (sl := false) hl hhi hm hb (Nat.le_refl _)
     have hex := exactly_spec hr hsz he
     have hm' : (if mx'.isSome then c else n) = c := by
      split
      ·rfl
      ·rename_i hn; exact (p5 (by simpa using hn)).symm
     rw [hm'] at p4
     refine Sim.val hr (v' := .slice (some (if c = a then ⟨pl.cb, pl.sh + o, none⟩ else (⟨pl.cb, pl.sh + o, none⟩ : Addr).add (a * j.size))) (bb - a) (c - a)) ?_ ?_
     ·simp [Instr.sliceAt, hc.run_und hu, Instr.sureAddr, p4, hc.run_size hj]
     ·show VR E (.slice (some ⟨b, o + a * j.size, none⟩) (bb - a) (c - a)) _
      refine .slice b _ _ _ _ _ pl he (by omega) (Nat.le_refl _) (fun e => rfl) (fun hne => ?_) (fun e => by rw [hex] at e; cases e)
      rw [if_neg (by omega), addr_add, Nat.add_assoc]
   ·cases h
  ·cases h
 ·cases h
theorem sim_makeSlice (hc : CxOk cx) {B : Nat} {E : Env} {H : Hp} {w : World} {id : Nat} (hr : HR B cx.lo E H w) (he : E id = none) (hg : H.get id = none) (hl : cx.lo ≤ id) {t : TypeId} {len cap len' cap' : Value} {res : ANext × Hp}
  (h1 : VR E len len') (h2 : VR E cap cap') (h : aMakeSlice cx t len cap id H = some res) : Sim cx B E w id (do pure (Next.value (← Instr.makeSlice t len' cap'))) res := by
 unfold aMakeSlice at h
 split at h
 ·rename_i elem l c hu hs1 hs2
  obtain ⟨k1, rfl⟩ := isSmallInt_spec hs1
  obtain ⟨k2, rfl⟩ := isSmallInt_spec hs2
  have := h1.int_inv; subst this
  have := h2.int_inv; subst this
  cases hi : cx.info elem with
  | none => rw [hi] at h; cases h
  | some i =>
   rw [hi] at h
   simp only at h
   cases hz : i.zero with
   | none => rw [hz] at h; cases h
   | some z =>
    rw [hz] at h
    simp only at h
    split at h
    ·rename_i hk
     obtain ⟨g1, g2, g3, g4⟩ := hk
     cases h
     have wl : IntKind.i64.wrap (l : Int) = l := IntWalk.i64_in _ (by omega)
     have wc : IntKind.i64.wrap (c : Int) = c := IntWalk.i64_in _ (by omega)
     have hb : ¬ (281474976710656 : Int) < (i.bytes : Int) * (c : Int) := by
      have : i.bytes * c ≤ 1099511627776 := by rw [Nat.mul_comm]; exact g2
      have := Int.ofNat_le.2 this
      rw [Int.natCast_mul] at this
      omega
     have hzero : AR E ((Array.range (c * i.size)).map fun k => z.cells[k % z.cells.size]!) ((Array.range (c * i.size)).map fun k => z.cells[k % z.cells.size]!) :=
      zeros_AR (VR.of_shut E (hc.zero _ _ _ hi hz)).cells _ (fun hpos => by rw [g4]; intro e; rw [e] at hpos; simp at hpos)
     have hle := Env.le_add E id (newPlace w (c * i.size) i.size) he
     refine Sim.made (pl := newPlace w (c * i.size) i.size) (ob := .cells ((Array.range (c * i.size)).map fun k => z.cells[k % z.cells.size]!) elem) (v' := .slice (some ⟨w.heap.size, 0, none⟩) l c) hr he hg hl ?_ rfl rfl rfl ?_ ?_
     ·have n1 : ¬ (c : Int) < 0 := by omega
      have n2 : ¬ (l : Int) < 0 := by omega
      have n3 : ¬ (c : Int) < (l : Int) := by omega
      by_cases hz0 : c * i.size = 0
      ·simp only [hz0]
       simp [Instr.makeSlice, hc.run_und hu, asInt, asIntOf, hc.run_info hi, wl, wc, n1, n2, n3, hb, hc.run_size hi, hz0, newRow]
       congr 2
       exact Array.ext (by simp) (fun i h1 h2 => by simp at h1)
      ·simp [Instr.makeSlice, hc.run_und hu, asInt, asIntOf, hc.run_info hi, wl, wc, n1, n2, n3, hb, hc.run_size hi, hz0, hc.run_zero hi hz, newRow]
     ·have := datR_new (lo := cx.lo) (w := w) (id := id) (esz := i.size) (exact := true) (hzero.list.mono hle) elem (newPlace w (c * i.size) i.size) rfl rfl (by simp [newPlace]) rfl rfl
      exact this
     ·exact .slice id 0 l c c _ _ (Env.add_same _ _ _) g1 (Nat.le_refl _) (fun _ => rfl) (fun _ => rfl) (fun e => by cases e)
    ·cases h
 ·cases h
end Go.Ev
