import Derived.Test.YthopphfehgdocaaGreatDoorGen3
import Derived.Laws.BytesString
set_option linter.unusedSimpArgs false
set_option linter.unusedVariables false
namespace Go.Ev
open Go.RowKit
variable {cx : Cx}
theorem notInt_spec (hc : CxOk cx) {xt : Option TypeId} (h : notInt cx xt = true) : ∀ t, xt = some t → ∃ d, (∀ w, (underlying t).run cx.P w = .ok d w) ∧ ∀ k, d ≠ .int k := by
 intro t e
 subst e
 unfold notInt at h
 simp only at h
 cases hu : cx.und t with
 | none => rw [hu] at h; cases h
 | some d =>
  rw [hu] at h
  refine ⟨d, fun w => hc.run_und hu w, fun k e => ?_⟩
  subst e
  cases h
theorem zeroFits_spec {i : TypeInfo} (h : zeroFits i = true) : ∃ z, i.zero = some z ∧ z.cells.size = i.size := by
 unfold zeroFits at h
 cases hz : i.zero with
 | none => rw [hz] at h; cases h
 | some z => rw [hz] at h; exact ⟨z, rfl, Nat.eq_of_beq_eq_true h⟩
theorem Sim.grown {B : Nat} {E : Env} {H : Hp} {w : World} {id : Nat} {s : Sem Value} {elem : TypeId} {size need newCap : Nat} {cells cells' rest' : List Value} (hr : HR B cx.lo E H w) (he : E id = none) (hg : H.get id = none) (hl : cx.lo ≤ id)
  (hcells : LR E cells cells') (hcap : need ≤ newCap) (hlen : (cells' ++ rest').length = newCap * size)
  (hs : s.run cx.P w = .ok (.slice (some ⟨w.heap.size, 0, none⟩) need newCap) (w.drew.alloc (.cells (cells' ++ rest').toArray elem))) :
  Sim cx B E w id (do pure (Next.value (← s))) (.val (.slice (some ⟨id, 0, none⟩) need need), H.set id (mkCells id elem size false cells)) := by
 let pl : Place := { cb := w.heap.size, sh := 0, cap := newCap * size, esz := size, exact := false }
 have hle := Env.le_add E id pl he
 refine ⟨E.add id pl, _, .value _, by rw [Sem.run_bind, hs]; rfl, ?_, hr.drew.alloc (pl := pl) he hg hl rfl rfl rfl ?_, hle, fun i hi => Env.add_ne _ _ _ _ hi, ((Below.refl _ _).drew).alloc (by simpa using hr.base) _⟩
 ·exact .slice id 0 need need newCap _ pl (Env.add_same _ _ _) (Nat.le_refl _) hcap (fun e => by cases e) (fun _ => rfl) (fun _ => by show 0 + 0 + newCap * size ≤ newCap * size; omega)
 ·unfold DatR mkCells
  have hl2 := hcells.1
  have hcl : cells'.length ≤ newCap * size := by rw [← hlen]; simp
  refine ⟨fun k hk => ?_, fun _ k _ => World.frozen?_alloc_new _ _ _ _, by show 0 + cells.length ≤ newCap * size; omega, rfl, rfl, fun _ => ⟨_, shape_alloc_new w.drew _ _, fun e => by cases e⟩, fun i hi => ?_⟩
  ·show ((w.drew.alloc _).cell? ⟨w.drew.heap.size, k, none⟩).isSome = true
   rw [World.cell?_alloc_new]
   have hk2 : k < (cells' ++ rest').length := by rw [hlen]; exact hk
   simp only [List.getElem?_toArray, List.getElem?_eq_getElem hk2, Option.isSome_some]
  ·have hi' : i < cells'.length := by omega
   refine ⟨cells[i], cells'[i], by rw [T.get_setList, if_pos (by omega)]; simp [hi], ?_, (hcells.2 i _ _ (List.getElem?_eq_getElem hi) (List.getElem?_eq_getElem hi')).mono hle⟩
   show (w.drew.alloc _).cell? ⟨w.drew.heap.size, 0 + i, none⟩ = _
   rw [World.cell?_alloc_new, Nat.zero_add]
   simp [List.getElem?_append_left hi', hi']
theorem loadOld_spec {B : Nat} {E : Env} {H : Hp} {w : World} (hr : HR B cx.lo E H w) {b o k : Nat} {pl : Place} {old : List Value} (he : E b = some pl) (h : loadOld H b o k = some old) :
  ∃ old', LR E old old' ∧ old.length = k ∧ ∀ j v', old'[j]? = some v' → w.cell? ⟨pl.cb, pl.sh + o + j, none⟩ = some v' := by
 unfold loadOld at h
 cases hz : Nat.beq k 0 with
 | true =>
  rw [hz] at h; cases h
  exact ⟨[], LR.nil E, (Nat.eq_of_beq_eq_true hz).symm, fun j v' p => by simp at p⟩
 | false =>
  rw [hz] at h
  obtain ⟨pl', l', e1, e2, e3, e4⟩ := loadN_spec hr h
  rw [he] at e1; cases e1
  exact ⟨l', e3, e2, e4⟩
theorem grownObj_cells {o k : Nat} {cs : T Value} {old new : List Value} (hold : old.length = k) (hcs : ∀ j, j < k → cs.get (o + j) = old[j]?) (cs2 : T Value) (h : cs2 = match Nat.beq o 0 with
      | true => cs.setList k new
      | false => T.setList .nil 0 (old ++ new)) : ∀ i, i < k + new.length → cs2.get i = (old ++ new)[i]? := by
 intro i hi
 subst h
 cases hz : Nat.beq o 0 with
 | true =>
  have hz0 := Nat.eq_of_beq_eq_true hz
  simp only
  rw [T.get_setList]
  by_cases hik : i < k
  ·rw [if_neg (by omega), List.getElem?_append_left (by omega), ← hcs i hik, hz0, Nat.zero_add]
  ·rw [if_pos (by omega), List.getElem?_append_right (by omega), hold]
 | false =>
  simp only
  rw [T.get_setList, if_pos (by simp; omega)]
  simp
theorem loadOld_get {H : Hp} {b o k nb : Nat} {ob : AObj} {cs : T Value} {old : List Value} (hg : H.get b = some ob) (hd : ob.dat = some (.cells nb cs)) (h : loadOld H b o k = some old) : ∀ j, j < k → cs.get (o + j) = old[j]? := by
 intro j hj
 unfold loadOld at h
 cases hz : Nat.beq k 0 with
 | true => have := Nat.eq_of_beq_eq_true hz; omega
 | false =>
  rw [hz] at h
  simp only [loadN, hg, hd] at h
  split at h
  ·obtain ⟨q1, q2⟩ := readN_spec k cs o old h
   have hj2 : j < old.length := by omega
   rw [List.getElem?_eq_getElem hj2]
   exact q2 j _ (List.getElem?_eq_getElem hj2)
  ·cases h
theorem sim_append (hc : CxOk cx) {B : Nat} {E : Env} {H : Hp} {w : World} {id : Nat} (hr : HR B cx.lo E H w) (he : E id = none) (hg : H.get id = none) (hid : ∀ c oc, H.get c = some oc → c < id) (hl : cx.lo ≤ id)
  {argTypes : Array TypeId} {ty : TypeId} {args args' : Array Value} {res : ANext × Hp} (ha : AR E args args') (h : aAppend cx argTypes args id H = some res) :
  Sim cx B E w id (do pure (Next.value (← Builtin.append_ argTypes ty args'))) res := by
 unfold aAppend at h
 split at h
 ·rename_i st base sLen sCap x h0 a0 a1
  split at h
  ·rename_i elem hu
   split at h
   ·rename_i ei n hi hn
    cases hk1 : (notInt cx argTypes[1]? && zeroFits ei) with
    | false => rw [hk1] at h; cases h
    | true =>
     rw [hk1] at h
     simp only at h
     rw [Bool.and_eq_true] at hk1
     obtain ⟨hni, hzf⟩ := hk1
     obtain ⟨z, hz, hzs⟩ := zeroFits_spec hzf
     cases hsrc : srcCells ei.size n x H with
     | none => rw [hsrc] at h; cases h
     | some new =>
      rw [hsrc] at h
      simp only at h
      cases hk2 : (Nat.beq new.length (Nat.mul n ei.size) && new.all oneCell) with
      | false => rw [hk2] at h; cases h
      | true =>
       rw [hk2] at h
       simp only at h
       rw [Bool.and_eq_true] at hk2
       have hnl : new.length = n * ei.size := Nat.eq_of_beq_eq_true hk2.1
       obtain ⟨s', b0, hsv⟩ := ha.get a0
       obtain ⟨x', b1, hxv⟩ := ha.get a1
       obtain ⟨new', hnew, hrunnew⟩ := srcCells_spec hc hr hxv (fun m hm => by rw [hn] at hm; cases hm; exact Nat.le_refl _) hsrc
       have hnl' : new'.length = n * ei.size := by rw [← hnew.1]; exact hnl
       have hone' : ∀ v ∈ new', v.oneCell' = true := by
        intro y hy
        obtain ⟨i, hi⟩ := List.getElem?_of_mem hy
        have hi' : i < new.length := by rw [hnew.1]; exact (List.getElem?_eq_some_iff.1 hi).1
        have := hnew.2 i _ y (List.getElem?_eq_getElem hi') hi
        exact this.oneCell (by have := List.all_eq_true.1 hk2.2 _ (List.getElem_mem hi'); exact this)
       have hlen := fun w => lenV_run (P := cx.P) (w := w) hxv hn
       cases hcapb : Nat.ble (Nat.add sLen n) sCap with
       | true =>
        have hcap : sLen + n ≤ sCap := Nat.le_of_ble_eq_true hcapb
        rw [hcapb] at h
        simp only [aAppendIn] at h
        have nx : ∀ t, argTypes[1]? = some t → ∃ d, (underlying t).run cx.P w = .ok d w ∧ ∀ k, d ≠ .int k := fun t e => by
         obtain ⟨d, q, r⟩ := notInt_spec hc hni t e; exact ⟨d, q w, r⟩
        split at h
        ·cases h
         have := hsv.shut_eq 1 rfl; subst this
         refine Sim.val hr (run_append_in (w' := w) h0 rfl b0 b1 (hc.run_und hu w) (hc.run_size hi w) nx (hlen w) (hrunnew w (fun _ _ _ => rfl)) hcap (fun a e => by cases e) (fun _ => rfl)) (.shut 1 _ rfl)
        ·rename_i a
         cases h
         have hn0 : new' = [] := by have := hnew.1; simp at this; exact List.length_eq_zero_iff.1 this.symm
         subst hn0
         cases hsv with
         | shut d _ k => cases d <;> simp [closed] at k
         | slice b o l c c' a' pl k1 k2 k3 k4 k5 k6 =>
          refine Sim.val hr (run_append_in (w' := w) h0 rfl b0 b1 (hc.run_und hu w) (hc.run_size hi w) nx (hlen w) (hrunnew w (fun _ _ _ => rfl)) (Nat.le_trans hcap k3) (fun a e => rfl) (fun e => by cases e)) ?_
          exact .slice b o _ _ _ a' pl k1 hcap k3 k4 k5 k6
        ·rename_i b o v vs
         obtain ⟨pl, c', a', k1, rfl, k2, k3, k4, k5, k6⟩ := hsv.slice_inv
         cases hst : storeN cx H b (Nat.add o (Nat.mul sLen ei.size)) (v :: vs) with
         | none => rw [hst] at h; cases h
         | some H' =>
          rw [hst] at h
          cases h
          have hpos : n ≠ 0 := by intro e; subst e; simp at hnl
          have hae := k5 (by omega)
          subst hae
          obtain ⟨pl', w', e1, hB, r1, r2, r3⟩ := storeN_spec hr hst hnew
          rw [k1] at e1; cases e1
          refine ⟨E, w', .value (.slice (some ⟨pl.cb, pl.sh + o, none⟩) (sLen + n) c'), ?_, ?_, r2, Env.le_refl E, fun _ _ => rfl, r3⟩
          ·rw [Sem.run_bind, run_append_in (w' := w') h0 rfl b0 b1 (hc.run_und hu w) (hc.run_size hi w) nx (hlen w) (hrunnew w (fun _ _ _ => rfl)) (Nat.le_trans hcap k3) (fun a e => ?_) (fun e => by cases e)]
           ·rfl
           ·cases e
            rw [addr_add, Nat.add_assoc]
            exact r1
          ·exact .slice b o _ _ _ _ pl k1 hcap k3 k4 (fun _ => rfl) k6
        ·cases h
       | false =>
        have hcap : sCap < sLen + n := by
         rcases Nat.lt_or_ge sCap (sLen + n) with q | q
         ·exact q
         ·exact absurd (Nat.ble_eq_true_of_le q) (by rw [show (sLen + n) = Nat.add sLen n from rfl, hcapb]; simp)
        rw [hcapb] at h
        simp only at h
        cases hk3 : (Nat.ble (Nat.mul (Nat.add (Nat.mul 2 (Nat.add sLen n)) 1000) ei.bytes) 140737488355328 && Nat.ble 1 ei.bytes && Nat.ble (Nat.add sLen n) 4611686018427387904) with
        | false => rw [hk3] at h; cases h
        | true =>
         rw [hk3] at h
         simp only [Bool.and_eq_true] at hk3 h
         have hb : (2 * (sLen + n) + 1000) * ei.bytes ≤ 140737488355328 := Nat.le_of_ble_eq_true hk3.1.1
         have hb1 : 1 ≤ ei.bytes := Nat.le_of_ble_eq_true hk3.1.2
         have out : ∀ (base' : Option Addr) (cap' : Nat) (old' : List Value), s' = .slice base' sLen cap' → cap' < sLen + n → (Builtin.firstCells ei.size sLen (.slice base' sLen cap')).run cx.P w.drew = .ok old'.toArray w.drew → old'.length = sLen * ei.size →
           ∃ newCap rest, sLen + n ≤ newCap ∧ (old' ++ new' ++ rest).length = newCap * ei.size ∧
            (Builtin.append_ argTypes ty args').run cx.P w = .ok (.slice (some ⟨w.heap.size, 0, none⟩) (sLen + n) newCap) (w.drew.alloc (.cells (old' ++ new' ++ rest).toArray elem)) := by
          intro base' cap' old' es hlt hold hol
          subst es
          exact run_append_out (st := st) (xt := argTypes[1]?) (z := z) h0 rfl b0 b1 (fun w => hc.run_und hu w) (fun w => hc.run_info hi w) (fun w => hc.run_size hi w) (fun w => hc.run_zero hi hz w) (notInt_spec hc hni) (hlen w)
           (hrunnew w.drew (fun _ _ _ => rfl)) hold hlt hb hb1 hzs hol hnl'
         unfold aAppendOut at h
         split at h
         ·
          cases hz0 : Nat.beq sLen 0 with
          | false => rw [hz0] at h; cases h
          | true =>
           have hz0 := Nat.eq_of_beq_eq_true hz0
           subst hz0
           simp only [Nat.beq, fresh, rval] at h
           cases h
           have := hsv.shut_eq 1 rfl; subst this
           obtain ⟨newCap, rest, q1, q2, q3⟩ := out none sCap [] rfl hcap rfl (by simp)
           exact Sim.grown hr he hg hl hnew q1 (by simpa using q2) (by simpa using q3)
         ·rename_i b o
          obtain ⟨pl, c', a', k1, hs', k2, k3, k4, k5, k6⟩ := hsv.slice_inv
          cases hgb : H.get b with
          | none => rw [hgb] at h; cases h
          | some ob =>
           rw [hgb] at h
           simp only at h
           split at h
           ·rename_i nb cs hd
            cases ho : loadOld H b o (Nat.mul sLen ei.size) with
            | none => rw [ho] at h; cases h
            | some old =>
             rw [ho] at h
             simp only at h
             obtain ⟨old', ho1, ho2, ho3⟩ := loadOld_spec hr k1 ho
             have ho2' : old'.length = sLen * ei.size := by rw [← ho1.1]; exact ho2
             have hplb := hr.bound b pl k1
             have hcr := cellsR_of hr hgb hd k1
             have hrold : ∀ w', (∀ p o, p < w.heap.size → w'.cell? ⟨p, o, none⟩ = w.cell? ⟨p, o, none⟩) → (Builtin.firstCells ei.size sLen (.slice (some a') sLen c')).run cx.P w' = .ok old'.toArray w' := by
              intro w' hw'
              by_cases hs0 : sLen = 0
              ·have : old' = [] := List.length_eq_zero_iff.1 (by rw [ho2', hs0]; simp)
               subst this
               have e := run_loadCells_list (P := cx.P) w' a' [] (by simp)
               simp at e
               simp [Builtin.firstCells, hs0, e]
              ·have hae := k5 (by omega)
               subst hae
               simp only [Builtin.firstCells]
               exact run_loadCells_at (l' := old') ho2' (fun j v' q => by rw [hw' _ _ hplb]; exact ho3 j v' q) rfl
             have realloc : c' < sLen + n → ∃ newCap rest, sLen + n ≤ newCap ∧ (old' ++ new' ++ rest).length = newCap * ei.size ∧
            (Builtin.append_ argTypes ty args').run cx.P w = .ok (.slice (some ⟨w.heap.size, 0, none⟩) (sLen + n) newCap) (w.drew.alloc (.cells (old' ++ new' ++ rest).toArray elem)) :=
              fun hlt => out (some a') c' old' hs' hlt (hrold w.drew (fun _ _ _ => rfl)) ho2'
             cases hex : ob.exact with
             | true =>
              rw [hex] at h
              simp only [fresh, rval] at h
              cases h
              have hcc := k4 (by rw [hcr.exact, hex])
              obtain ⟨newCap, rest, q1, q2, q3⟩ := realloc (by omega)
              exact Sim.grown hr he hg hl (ho1.append hnew) q1 q2 q3
             | false =>
              rw [hex] at h
              simp only [aAppendMaybe] at h
              have hplx : pl.exact = false := by rw [hcr.exact, hex]
              cases hk4 : (Nat.beq ob.esz ei.size && Nat.ble cx.lo b && Nat.beq ob.elem elem) with
              | false => rw [hk4] at h; cases h
              | true =>
               rw [hk4] at h
               simp only [Bool.and_eq_true] at hk4 h
               have hesz : ob.esz = ei.size := Nat.eq_of_beq_eq_true hk4.1.1
               have hlob : cx.lo ≤ b := Nat.le_of_ble_eq_true hk4.1.2
               have hselem : ob.elem = elem := Nat.eq_of_beq_eq_true hk4.2
               have hrid : ob.root ≠ id := by
                intro e
                obtain ⟨ro, q, _⟩ := hr.root b ob hgb (by rw [hd]; simp) hlob
                rw [e, hg] at q; cases q
               have main : ∀ (keep : Nat → Bool) (H2 : Hp) (cs2 : T Value), growKin H ob.root id keep = some H2 →
                 (∀ c, keep c = true → c ≤ b ∧ o + sLen * ei.size = nb) → (∀ i, i < sLen * ei.size + new.length → cs2.get i = (old ++ new)[i]?) →
                 Sim cx B E w id (do pure (Next.value (← Builtin.append_ argTypes ty args'))) (.val (.slice (some ⟨id, 0, none⟩) (sLen + n) (sLen + n)), H2.set id (grownObj elem ei.size ob.root (sLen * ei.size + new.length) cs2)) := by
                intro keep H2 cs2 hgk hkp hcs2
                obtain ⟨hr2, ⟨ro2, hro2, hkin⟩, hback, hfam, hlive⟩ := growKin_spec hr hrid hgk
                have hg2 : H2.get id = none := by
                 cases q : H2.get id with
                 | none => rfl
                 | some oc => obtain ⟨oc0, q0⟩ := hback id oc q; rw [hg] at q0; cases q0
                have hid2 : ∀ c oc, H2.get c = some oc → c < id := fun c oc q => by obtain ⟨oc0, q0⟩ := hback c oc q; exact hid c oc0 q0
                have hcellsLR := ho1.append hnew
                have share : ∀ c oc plc, H2.get c = some oc → oc.dat ≠ none → E c = some plc → plc.cb = pl.cb → oc.root = ob.root ∧ endOf oc plc ≤ pl.sh + (o + sLen * ei.size) ∧ cx.lo ≤ c := by
                 intro c oc plc p dn e ecb
                 have hlc : cx.lo ≤ c := by
                  rcases Nat.lt_or_ge c cx.lo with q | q
                  ·have := hr.old c plc e q; have := hr.new b pl k1 hlob; omega
                  ·exact q
                 obtain ⟨oc0, q0, q1, q2⟩ := hlive c oc p dn
                 have dn0 : oc0.dat ≠ none := by rw [q1]; exact dn
                 have hob : ob.dat ≠ none := by rw [hd]; simp
                 have hroot : oc.root = ob.root := by
                  rcases Nat.lt_trichotomy c b with q | q | q
                  ·rw [← q2]; exact (hr.apart c b oc0 ob plc pl q0 hgb dn0 hob hlc q e k1 ecb).1
                  ·subst q; rw [hgb] at q0; cases q0; rw [← q2]
                  ·rw [← q2]; exact (hr.apart b c ob oc0 pl plc hgb q0 hob dn0 hlob q k1 e ecb.symm).1.symm
                 obtain ⟨f1, f2⟩ := hfam c oc p dn hlc hroot
                 obtain ⟨f3, f4⟩ := hkp c f1
                 refine ⟨hroot, ?_, hlc⟩
                 have hend : endOf ob pl = pl.sh + nb := by unfold endOf; rw [hd]
                 have hendc : endOf oc plc = endOf oc0 plc := by unfold endOf; rw [q1]
                 rw [f4, ← hend, hendc]
                 rcases Nat.lt_or_ge c b with q | q
                 ·exact (hr.apart c b oc0 ob plc pl q0 hgb dn0 hob hlc q e k1 ecb).2
                 ·have : c = b := by omega
                  subst this
                  rw [hgb] at q0; cases q0
                  rw [k1] at e; cases e
                  exact Nat.le_refl _
                have endNew : ∀ pl2 : Place, endOf (grownObj elem ei.size ob.root (sLen * ei.size + new.length) cs2) pl2 = pl2.sh + (sLen * ei.size + new.length) := fun pl2 => rfl
                have hcell2 : ∀ i, i < sLen * ei.size + new.length → ∃ v v', cs2.get i = some v ∧ (old' ++ new')[i]? = some v' ∧ VR E v v' := by
                 intro i hi
                 have hi1 : i < (old ++ new).length := by simp [ho2]; exact hi
                 have hi2 : i < (old' ++ new').length := by rw [← hcellsLR.1]; exact hi1
                 exact ⟨(old ++ new)[i], (old' ++ new')[i], by rw [hcs2 i hi]; exact List.getElem?_eq_getElem hi1, List.getElem?_eq_getElem hi2, hcellsLR.2 i _ _ (List.getElem?_eq_getElem hi1) (List.getElem?_eq_getElem hi2)⟩
                rcases Nat.lt_or_ge c' (sLen + n) with hlt | hge
                ·
                 obtain ⟨newCap, rest, q1, q2, q3⟩ := realloc hlt
                 let pl2 : Place := { cb := w.heap.size, sh := 0, cap := newCap * ei.size, esz := ei.size, exact := false }
                 have hle := Env.le_add E id pl2 he
                 refine ⟨E.add id pl2, _, .value _, by rw [Sem.run_bind, q3]; rfl, ?_, ?_, hle, fun i hi => Env.add_ne _ _ _ _ hi, ((Below.refl _ _).drew).alloc (by simpa using hr.base) _⟩
                 ·exact .slice id 0 _ _ newCap _ pl2 (Env.add_same _ _ _) (Nat.le_refl _) q1 (fun e => by cases e) (fun _ => rfl) (fun _ => by show 0 + 0 + newCap * ei.size ≤ newCap * ei.size; omega)
                 ·refine hr2.addIn (pl := pl2) he hg2 hid2 hl hro2 hkin rfl (by rw [World.size_alloc]; simp) hr.base (by rw [World.size_alloc]; simp [pl2]) (fun c oc plc p e d => ?_) ?_ (fun c oc plc p dn hlc e ecb => ?_)
                  ·have hk5 : (w.drew.alloc (.cells (old' ++ new' ++ rest).toArray elem)).heap[plc.cb]? = w.heap[plc.cb]? := Below.heap_alloc w.drew _ _ (by simpa using hr.bound c plc e)
                   exact DatR.keep (w := w) hle hk5 d
                  ·unfold DatR grownObj
                   have hq2 := q2
                   simp only [List.length_append] at hq2
                   refine ⟨fun k hk => ?_, fun _ k _ => World.frozen?_alloc_new _ _ _ _, by show 0 + (sLen * ei.size + new.length) ≤ newCap * ei.size; rw [← hq2, ho2', hnl', hnl]; omega, rfl, rfl, fun _ => ⟨_, shape_alloc_new w.drew _ _, fun e => by cases e⟩, fun i hi => ?_⟩
                   ·show ((w.drew.alloc _).cell? ⟨w.drew.heap.size, k, none⟩).isSome = true
                    rw [World.cell?_alloc_new]
                    have hk2 : k < (old' ++ new' ++ rest).length := by rw [q2]; exact hk
                    simp only [List.getElem?_toArray, List.getElem?_eq_getElem hk2, Option.isSome_some]
                   ·obtain ⟨v, v', u1, u2, u3⟩ := hcell2 i hi
                    refine ⟨v, v', u1, ?_, u3.mono hle⟩
                    show (w.drew.alloc _).cell? ⟨w.drew.heap.size, 0 + i, none⟩ = _
                    rw [World.cell?_alloc_new, Nat.zero_add]
                    have hi2 : i < (old' ++ new').length := (List.getElem?_eq_some_iff.1 u2).1
                    rw [List.getElem?_toArray, List.getElem?_append_left hi2]
                    exact u2
                  ·have := hr.bound c plc e
                   have : plc.cb = w.heap.size := ecb
                   omega
                ·
                 have hc0 : c' ≠ 0 := by omega
                 have hae := k5 hc0
                 have hfit := k6 hplx
                 rw [hcr.esz, hesz] at hfit
                 have hmul : sLen * ei.size + n * ei.size ≤ c' * ei.size := by rw [← Nat.add_mul]; exact Nat.mul_le_mul_right _ hge
                 let pl2 : Place := { cb := pl.cb, sh := pl.sh + o, cap := pl.cap, esz := ei.size, exact := false }
                 have hle := Env.le_add E id pl2 he
                 have hBb := hr.new b pl k1 hlob
                 have hsome : ∀ k, k < pl.cap → (w.cell? ⟨pl.cb, k, none⟩).isSome = true := hcr.there
                 have hsoft : ∀ k, k < pl.cap → w.frozen? ⟨pl.cb, k, none⟩ = false := hcr.soft hlob
                 have hst := run_storeCells_cells (P := cx.P) pl.cb (pl.sh + o + sLen * ei.size) new' 0 w (fun j hj => hsome _ (by omega)) (fun j hj => hsoft _ (by omega)) hone'
                 have hrun : (Builtin.append_ argTypes ty args').run cx.P w = .ok (.slice (some ⟨pl.cb, pl.sh + o, none⟩) (sLen + n) c') (w.setCells pl.cb (pl.sh + o + sLen * ei.size) new') := by
                  subst hae
                  rw [hs'] at b0
                  exact run_append_in h0 rfl b0 b1 (hc.run_und hu w) (hc.run_size hi w) (fun t e => by obtain ⟨d, q, r⟩ := notInt_spec hc hni t e; exact ⟨d, q w, r⟩) (hlen w) (hrunnew w (fun _ _ _ => rfl)) hge
                   (fun a e => by cases e; rw [addr_add]; simpa using hst) (fun e => by cases e)
                 have hcellin : ∀ j (hj : j < new'.length), (w.setCells pl.cb (pl.sh + o + sLen * ei.size) new').cell? ⟨pl.cb, pl.sh + o + sLen * ei.size + j, none⟩ = some new'[j] :=
                  fun j hj => World.cell?_setCells_in pl.cb new' _ w (fun i hi => hsome _ (by omega)) j hj
                 have hcellout : ∀ k, k < pl.sh + o + sLen * ei.size → (w.setCells pl.cb (pl.sh + o + sLen * ei.size) new').cell? ⟨pl.cb, k, none⟩ = w.cell? ⟨pl.cb, k, none⟩ :=
                  fun k hk => World.cell?_setCells_out _ _ _ _ _ (fun _ _ => Or.inl hk)
                 have hsome' : ∀ k, k < pl.cap → ((w.setCells pl.cb (pl.sh + o + sLen * ei.size) new').cell? ⟨pl.cb, k, none⟩).isSome = true := by
                  intro k hk
                  by_cases hin : pl.sh + o + sLen * ei.size ≤ k ∧ k < pl.sh + o + sLen * ei.size + new'.length
                  ·obtain ⟨j, rfl⟩ : ∃ j, k = pl.sh + o + sLen * ei.size + j := ⟨k - (pl.sh + o + sLen * ei.size), by omega⟩
                   rw [hcellin j (by omega)]; rfl
                  ·rw [World.cell?_setCells_out _ _ _ _ _ (fun _ _ => by show k < _ ∨ _ ≤ k; omega)]
                   exact hsome k hk
                 refine ⟨E.add id pl2, _, .value _, by rw [Sem.run_bind, hrun]; rfl, ?_, ?_, hle, fun i hi => Env.add_ne _ _ _ _ hi, setCells_below _ _ hBb _ _ _⟩
                 ·refine .slice id 0 _ _ c' _ pl2 (Env.add_same _ _ _) (Nat.le_refl _) hge (fun e => by cases e) (fun _ => rfl) (fun _ => ?_)
                  show pl.sh + o + 0 + c' * ei.size ≤ pl.cap
                  omega
                 ·refine hr2.addIn (pl := pl2) he hg2 hid2 hl hro2 hkin rfl (by rw [setCells_size]; exact Nat.le_refl _) hBb (by rw [setCells_size]; exact hplb) (fun c oc plc p e d => ?_) ?_ (fun c oc plc p dn hlc e ecb => ?_)
                  ·by_cases dn : oc.dat = none
                   ·unfold DatR; rw [dn]; trivial
                   ·by_cases ecb : plc.cb = pl.cb
                    ·obtain ⟨s1, s2, s3⟩ := share c oc plc p dn e ecb
                     by_cases hnil : new' = []
                     ·subst hnil
                      exact d.keep hle rfl
                     ·have hpos : 0 < new'.length := List.length_pos_iff.2 hnil
                      have h0 := hsome (pl.sh + o + sLen * ei.size) (by omega)
                      have hcells : ∀ ob2 : Obj, w.heap[pl.cb]? = some ob2 → ∃ c e f, ob2 = .cells c e f := by
                       intro ob2 q
                       simp only [World.cell?, q] at h0
                       cases ob2 with
                       | cells c e f => exact ⟨c, e, f, rfl⟩
                       | _ => simp at h0
                      unfold DatR at d ⊢
                      unfold endOf at s2
                      cases hdc : oc.dat with
                      | none => exact absurd hdc dn
                      | some dd =>
                       rw [hdc] at d s2
                       cases dd with
                       | cells m ccs =>
                        simp only at d s2 ⊢
                        have keepSome : ∀ k, (w.cell? ⟨pl.cb, k, none⟩).isSome = true → ((w.setCells pl.cb (pl.sh + o + sLen * ei.size) new').cell? ⟨pl.cb, k, none⟩).isSome = true := by
                         intro k hk
                         by_cases hin : pl.sh + o + sLen * ei.size ≤ k ∧ k < pl.sh + o + sLen * ei.size + new'.length
                         ·obtain ⟨j, rfl⟩ : ∃ j, k = pl.sh + o + sLen * ei.size + j := ⟨k - (pl.sh + o + sLen * ei.size), by omega⟩
                          rw [hcellin j (by omega)]; rfl
                         ·rw [World.cell?_setCells_out _ _ _ _ _ (fun _ _ => by show k < _ ∨ _ ≤ k; omega)]
                          exact hk
                        refine ⟨fun k hk => by rw [ecb]; exact keepSome k (by have := d.there k hk; rwa [ecb] at this), fun hlc k hk => by have := d.soft hlc k hk; rw [ecb] at this ⊢; rw [World.frozen?_setCells]; exact this, d.fits, d.esz, d.exact, fun hlc => by rw [setCells_shape]; exact d.shape hlc, fun i hi => ?_⟩
                        obtain ⟨v, v', u1, u2, u3⟩ := d.cell i hi
                        refine ⟨v, v', u1, ?_, u3.mono hle⟩
                        rw [ecb] at u2 ⊢
                        rw [hcellout _ (by omega)]
                        exact u2
                       | map es clock =>
                        obtain ⟨ces, q, _⟩ := d
                        rw [ecb] at q
                        obtain ⟨_, _, _, q2⟩ := hcells _ q
                        cases q2
                       | strIter s pos =>
                        obtain ⟨q, _⟩ := d
                        rw [ecb] at q
                        obtain ⟨_, _, _, q2⟩ := hcells _ q
                        cases q2
                       | mapIter m since seen st =>
                        obtain ⟨m', q, _⟩ := d
                        rw [ecb] at q
                        obtain ⟨_, _, _, q2⟩ := hcells _ q
                        cases q2
                    ·exact d.keep hle (setCells_block _ _ _ _ _ ecb)
                  ·unfold DatR grownObj
                   refine ⟨hsome', fun _ k hk => by rw [World.frozen?_setCells]; exact hsoft k hk, by show pl.sh + o + (sLen * ei.size + new.length) ≤ pl.cap; rw [hnl]; omega, rfl, rfl, fun _ => by obtain ⟨m, hm, _⟩ := hcr.shape hlob; rw [hselem] at hm; exact ⟨m, by rw [setCells_shape]; exact hm, fun e => by cases e⟩, fun i hi => ?_⟩
                   obtain ⟨v, v', u1, u2, u3⟩ := hcell2 i hi
                   refine ⟨v, v', u1, ?_, u3.mono hle⟩
                   show (w.setCells pl.cb (pl.sh + o + sLen * ei.size) new').cell? ⟨pl.cb, pl.sh + o + i, none⟩ = some v'
                   by_cases hik : i < old'.length
                   ·rw [hcellout _ (by omega)]
                    rw [List.getElem?_append_left hik] at u2
                    exact ho3 i v' u2
                   ·rw [List.getElem?_append_right (by omega)] at u2
                    obtain ⟨j, rfl⟩ : ∃ j, i = old'.length + j := ⟨i - old'.length, by omega⟩
                    rw [show old'.length + j - old'.length = j by omega] at u2
                    have hj := (List.getElem?_eq_some_iff.1 u2).1
                    have := hcellin j hj
                    rw [List.getElem?_eq_getElem hj] at u2
                    cases u2
                    rw [← this, ho2', ← Nat.add_assoc]
                  ·obtain ⟨s1, s2, s3⟩ := share c oc plc p dn e ecb
                   refine ⟨s1, ?_⟩
                   rw [endNew]
                   show endOf oc plc ≤ pl.sh + o + _
                   omega
               split at h
               ·rename_i hat
                have hat := Nat.eq_of_beq_eq_true hat
                cases hgk : growKin H ob.root id (fun m => Nat.ble m b) with
                | none => rw [hgk] at h; cases h
                | some H2 =>
                 rw [hgk] at h
                 cases h
                 exact main _ H2 _ hgk (fun c q => ⟨Nat.le_of_ble_eq_true q, hat⟩) (grownObj_cells ho2 (loadOld_get hgb hd ho) _ rfl)
               ·cases hgk : growKin H ob.root id (fun _ => false) with
                | none => rw [hgk] at h; cases h
                | some H2 =>
                 rw [hgk] at h
                 cases h
                 exact main _ H2 _ hgk (fun c q => by cases q) (grownObj_cells (o := 1) ho2 (cs := T.setList .nil 1 old) (fun j hj => by rw [T.get_setList, if_pos (by omega)]; congr 1; omega) _ rfl)
           ·cases h
         ·cases h
   ·cases h
  ·cases h
 ·cases h
variable {cx : Cx}
theorem sim_copy (hc : CxOk cx) {B : Nat} {E : Env} {H : Hp} {w : World} {id : Nat} (hr : HR B cx.lo E H w)
  {argTypes : Array TypeId} {ty : TypeId} {args args' : Array Value} {res : ANext × Hp} (ha : AR E args args') (h : aCopy cx argTypes args H = some res) :
  Sim cx B E w id (do pure (Next.value (← Builtin.copy_ argTypes ty args'))) res := by
 unfold aCopy at h
 split at h
 ·rename_i dt base dLen dCap x h0 a0 a1
  split at h
  ·rename_i elem hu
   split at h
   ·rename_i ei sl hi hn
    simp only at h
    obtain ⟨s', b0, hsv⟩ := ha.get a0
    obtain ⟨x', b1, hxv⟩ := ha.get a1
    have hlen := fun w => lenV_run (P := cx.P) (w := w) hxv hn
    cases hsrc : srcCells ei.size (Nat.min sl dLen) x H with
    | none => rw [hsrc] at h; cases h
    | some new =>
     rw [hsrc] at h
     obtain ⟨new', hnew, hrunnew⟩ := srcCells_spec hc hr hxv (fun m hm => by rw [hn] at hm; cases hm; exact Nat.min_le_left _ _) hsrc
     have run : ∀ (base' : Option Addr) (c' : Nat) (w' : World), s' = .slice base' dLen c' → (∀ a, base' = some a → (storeCells a new').run cx.P w = .ok () w') → (base' = none → w' = w) →
       (Builtin.copy_ argTypes ty args').run cx.P w = .ok (goInt (Nat.min sl dLen)) w' := by
      intro base' c' w' es hst hno
      subst es
      unfold Builtin.copy_
      rw [h0, b0, b1]
      simp only [Sem.run_bind, hc.run_und hu, Result.andThen_ok, hlen, hc.run_size hi, hrunnew w (fun _ _ _ => rfl), Sem.run_pure]
      cases base' with
      | none => rw [hno rfl]; rfl
      | some a => simp only [Sem.run_bind, hst a rfl, Result.andThen_ok, Sem.run_pure]
     have hint : VR E (goInt (Nat.min sl dLen)) (goInt (Nat.min sl dLen)) := .shut 1 _ rfl
     cases new with
     | nil =>
      cases h
      have hn0 : new' = [] := List.length_eq_zero_iff.1 (by have := hnew.1; simpa using this.symm)
      subst hn0
      have shape : ∃ base' c', s' = .slice base' dLen c' := by
       cases hsv with
       | shut d _ k => exact ⟨_, _, rfl⟩
       | slice b o l c c' a' pl _ _ _ _ _ _ => exact ⟨_, _, rfl⟩
      obtain ⟨base', c', es⟩ := shape
      exact Sim.val hr (run base' c' w es (fun a _ => rfl) (fun _ => rfl)) hint
     | cons v vs =>
      simp only at h
      split at h
      ·rename_i b o
       cases hst : storeN cx H b o (v :: vs) with
       | none => rw [hst] at h; cases h
       | some H' =>
        rw [hst] at h
        cases h
        obtain ⟨pl, c', a', k1, rfl, k2, k3, k4, k5, k6⟩ := hsv.slice_inv
        have hd0 : dLen ≠ 0 := by
         intro e
         rw [e, show (Nat.min sl 0) = 0 from Nat.min_zero sl] at hsrc
         unfold srcCells at hsrc
         split at hsrc
         ·cases hsrc
         ·split at hsrc
          ·cases hsrc
          ·rename_i hz; simp [Nat.mul] at hz
         ·rename_i s
          have e0 : s.extract 0 0 = ByteArray.empty := by
           apply ByteArray.ext
           apply Array.ext'
           simp
          rw [e0] at hsrc
          have hs0 : ((ByteArray.empty.data).map fun b => Value.int .u8 b.toNat).toList = [] := by
           have : ByteArray.empty.data.size = 0 := by decide
           have : ByteArray.empty.data = #[] := Array.eq_empty_of_size_eq_zero this
           rw [this]; simp
          rw [hs0] at hsrc
          cases hsrc
         ·cases hsrc
        have hae := k5 (by omega)
        subst hae
        obtain ⟨pl', w', e1, hB, r1, r2, r3⟩ := storeN_spec hr hst hnew
        rw [k1] at e1; cases e1
        refine ⟨E, w', .value (goInt (Nat.min sl dLen)), ?_, hint, r2, Env.le_refl E, fun _ _ => rfl, r3⟩
        rw [Sem.run_bind, run _ _ w' rfl (fun a e => by cases e; exact r1) (fun e => by cases e)]
        rfl
      ·cases h
   ·cases h
  ·cases h
 ·cases h
theorem bytesOf_spec {E : Env} : ∀ (l l' : List Value) (acc s : ByteArray), LR E l l' → bytesOf l acc = some s → ∃ ns : List Int, l' = ns.map (Value.int .u8) ∧ s = ns.foldl (fun r n => r.push (UInt8.ofNat n.toNat)) acc
 | [], [], acc, s, _, h => by simp only [bytesOf] at h; cases h; exact ⟨[], rfl, rfl⟩
 | v :: l, v' :: l', acc, s, hl, h => by
  cases v with
  | int k n => cases k with
   | u8 =>
    simp only [bytesOf] at h
    obtain ⟨ns, q1, q2⟩ := bytesOf_spec l l' _ s hl.tail h
    have := hl.head.int_inv
    subst this
    exact ⟨n :: ns, by rw [q1]; rfl, q2⟩
   | _ => simp [bytesOf] at h
  | _ => simp [bytesOf] at h
 | [], _ :: _, _, _, hl, _ => by have := hl.1; simp at this
 | _ :: _, [], _, _, hl, _ => by have := hl.1; simp at this
theorem frozen_freeze {w : World} {b n k : Nat} {c : Array Value} {e : TypeId} (h : w.heap[b]? = some (.cells c e (0, 0))) (hk : k ≠ n) : (w.freeze ⟨b, n, none⟩ 1).frozen? ⟨b, k, none⟩ = false := by
 have hb : b < w.heap.size := (Array.getElem?_eq_some_iff.1 h).1
 have e1 : (w.freeze ⟨b, n, none⟩ 1).heap[b]? = some (.cells c e (n, n + 1)) := by
  unfold World.freeze
  rw [if_neg (by decide)]
  simp only [Array.getElem?_modify, if_true, h, Option.map_some]
  rfl
 simp only [World.frozen?, e1]
 simp
 omega
theorem shape_freeze {w : World} {a : Addr} {m k : Nat} : (w.freeze a m).shape? k = w.shape? k := by
 unfold World.freeze
 split
 ·rfl
 ·unfold World.shape?
  simp only [Array.getElem?_modify]
  by_cases e : a.block = k
  ·rw [if_pos e]
   cases h : w.heap[k]? with
   | none => rfl
   | some o => cases o with
    | cells c t f => rfl
    | _ => rfl
  ·rw [if_neg e]
theorem cell_freeze {w : World} {b n m : Nat} {p : Addr} : (w.freeze ⟨b, n, none⟩ m).cell? p = w.cell? p := by
 unfold World.freeze
 split
 ·rfl
 ·simp only [World.cell?, Array.getElem?_modify]
  by_cases e : b = p.block
  ·subst e
   rw [if_pos rfl]
   cases hq : w.heap[p.block]? with
   | none => rfl
   | some o =>
    simp only [Option.map_some]
    cases o <;> rfl
  ·rw [if_neg e]
theorem freeze_heap {w : World} {b n m k : Nat} (h : k ≠ b) : (w.freeze ⟨b, n, none⟩ m).heap[k]? = w.heap[k]? := by
 unfold World.freeze
 split
 ·rfl
 ·simp only [Array.getElem?_modify]
  rw [if_neg (Ne.symm h)]
theorem freeze_size {w : World} {b n m : Nat} : (w.freeze ⟨b, n, none⟩ m).heap.size = w.heap.size := by
 unfold World.freeze
 split
 ·rfl
 ·simp
theorem freeze_below {B : Nat} {w : World} {b n m : Nat} (h : B ≤ b) : Below B w (w.freeze ⟨b, n, none⟩ m) :=
 ⟨by unfold World.freeze; split <;> rfl, by unfold World.freeze; split <;> rfl, by unfold World.freeze; split <;> rfl, by rw [freeze_size]; exact Nat.le_refl _, fun k hk => freeze_heap (by omega)⟩
theorem sim_convert (hc : CxOk cx) {B : Nat} {E : Env} {H : Hp} {w : World} {id : Nat} (hr : HR B cx.lo E H w) (he : E id = none) (hg : H.get id = none) (hid : ∀ c oc, H.get c = some oc → c < id) (hl : cx.lo ≤ id) {src dst : TypeId} {x x' : Value} {res : ANext × Hp} (hx : VR E x x')
  (h : aConvert cx src dst x id H = some res) : Sim cx B E w id (do pure (Next.value (← convert src dst x'))) res := by
 unfold aConvert at h
 split at h
 ·rename_i e b o len c hs hd
  split at h
  ·rename_i hue hl0
   cases hld : loadN H b o len with
   | none => rw [hld] at h; cases h
   | some l =>
    rw [hld] at h
    simp only at h
    cases hby : bytesOf l ByteArray.empty with
    | none => rw [hby] at h; cases h
    | some s =>
     rw [hby] at h
     cases h
     obtain ⟨pl, c', a', k1, rfl, k2, k3, k4, k5, k6⟩ := hx.slice_inv
     have := Nat.ne_of_beq_eq_false hl0
     have hae := k5 (by omega)
     subst hae
     obtain ⟨pl', l', e1, e2, e3, e4⟩ := loadN_spec hr hld
     rw [k1] at e1; cases e1
     obtain ⟨ns, q1, q2⟩ := bytesOf_spec l l' _ s e3 hby
     subst q1
     refine Sim.val hr (v' := .string s) ?_ (.shut 1 _ rfl)
     rw [run_convert_bytes_string w src dst e _ _ _ (hc.und hs) (hc.und hue) (hc.und hd), run_bytesToString (ns := ns), q2]
     exact run_loadCells_at (by rw [← e3.1]; exact e2) (fun j v' q => e4 j v' q) rfl
  ·cases h
 ·rename_i e s hs hd
  split at h
  ·rename_i hue
   cases h
   have := hx.shut_eq 1 rfl; subst this
   let c := (Question.appendCap s.size 0 e).cut (w.tape w.drawn (.appendCap s.size 0 e))
   have hcap : s.size ≤ c := by show s.size ≤ s.size + _; omega
   let cells : List Value := (s.data.map fun b => Value.int .u8 b.toNat).toList
   have hcl : cells.length = s.size := by simp [cells]
   let arr : Array Value := (s.data.map fun b => Value.int .u8 b.toNat) ++ Array.replicate (c - s.size) (.int .u8 0)
   have harr : arr.size = c := by show ((s.data.map fun b => Value.int .u8 b.toNat) ++ Array.replicate (c - s.size) (Value.int .u8 0)).size = c; simp; omega
   have harr2 : ∀ i, i < s.size → arr[i]? = cells[i]? := by
    intro i hi
    show ((s.data.map fun b => Value.int .u8 b.toNat) ++ Array.replicate (c - s.size) (Value.int .u8 0))[i]? = _
    rw [Array.getElem?_append_left (by simp; exact hi)]
    simp [cells]
   let w1 := w.drew.alloc (.cells arr e)
   have hw1 : w1.heap[w.heap.size]? = some (.cells arr e (0, 0)) := by show (w.heap.push (.cells arr e))[w.heap.size]? = _; simp
   let w' := w1.freeze ⟨w.heap.size, c, none⟩ 1
   let pl : Place := { cb := w.heap.size, sh := 0, cap := c, esz := 1, exact := false }
   have hle := Env.le_add E id pl he
   have hbig : w.heap.size < w1.heap.size := (Array.getElem?_eq_some_iff.1 hw1).1
   have hbase := hr.base
   refine ⟨E.add id pl, w', .value (.slice (some ⟨w.heap.size, 0, none⟩) s.size c), ?_, ?_, ?_, hle, fun i hi => Env.add_ne _ _ _ _ hi, ?_⟩
   ·have hsh : w1.shape? w.heap.size = some (e, c) := by simp only [World.shape?, hw1, harr]
    have hch : (choose (.appendCap s.size 0 e)).run cx.P w = .ok c w.drew := by simp [Question.forced, c]
    simp only [convert, Sem.run_bind, hc.run_und hs, hc.run_und hd, Result.andThen_ok, hc.run_und hue, Conv.stringToBytes, hch, newRow, run_newObj, Sem.run_pure, markStringish, run_shape]
    show (((Sem.run cx.P (match w1.shape? w.heap.size with | some (_, n) => freeze { block := w.heap.size, off := n } 1 | _ => pure ()) w1).andThen fun a w' => Result.ok (Value.slice (some { block := w.heap.size, off := 0 }) s.size c) w').andThen fun a w' => Result.ok (Next.value a) w') = _
    rw [hsh]
    rfl
   ·exact .slice id 0 _ _ c _ pl (Env.add_same _ _ _) (Nat.le_refl _) hcap (fun e => by cases e) (fun _ => rfl) (fun _ => by show 0 + 0 + c * 1 ≤ c; omega)
   ·have hr1 : HR B cx.lo E H w' := hr.below ((((Below.refl _ _).drew).alloc (by simp) _).trans (freeze_below (Nat.le_refl _)))
    have hr2 : HR B cx.lo (E.add id pl) (H.set id (mkCells id e 1 false cells)) w' := by
     constructor
     ·intro b x p
      rw [T.get_set] at p
      by_cases e2 : b = id
      ·subst e2
       rw [if_pos rfl] at p; cases p
       refine ⟨pl, Env.add_same _ _ _, ?_⟩
       unfold DatR mkCells
       have hcell : ∀ k, w'.cell? ⟨w.heap.size, k, none⟩ = arr[k]? := by
        intro k
        show (w1.freeze _ 1).cell? _ = _
        rw [cell_freeze]
        simp only [World.cell?, hw1]
        rfl
       refine ⟨fun k hk => ?_, fun _ k hk => frozen_freeze hw1 (Nat.ne_of_lt hk), by show 0 + cells.length ≤ c; omega, rfl, rfl, fun _ => ⟨arr.size, by show (w1.freeze ⟨w.heap.size, c, none⟩ 1).shape? w.heap.size = _; rw [shape_freeze]; simp only [World.shape?, hw1], fun e => by cases e⟩, fun i hi => ?_⟩
       ·show (w'.cell? ⟨w.heap.size, k, none⟩).isSome = true
        rw [hcell]
        have hk2 : k < arr.size := by rw [harr]; exact hk
        rw [Array.getElem?_eq_getElem hk2]; rfl
       ·have hi2 : i < cells.length := hi
        refine ⟨cells[i], cells[i], by rw [T.get_setList, if_pos (by omega)]; simp [hi2], ?_, ?_⟩
        ·show w'.cell? ⟨w.heap.size, 0 + i, none⟩ = _
         rw [Nat.zero_add, hcell, harr2 i (by omega)]
         exact List.getElem?_eq_getElem hi2
        ·have : ∃ k : UInt8, cells[i] = .int .u8 k.toNat := ⟨s.data[i]'(by simpa [hcl] using hi2), by simp [cells]⟩
         obtain ⟨k, hk⟩ := this
         rw [hk]; exact .shut 1 _ rfl
      ·rw [if_neg e2] at p
       obtain ⟨q, u, d⟩ := hr1.dat b x p
       exact ⟨q, by rw [Env.add_ne _ _ _ _ e2]; exact u, d.keep hle rfl⟩
     ·intro b x p dn hb
      rw [T.get_set] at p
      by_cases e2 : b = id
      ·subst e2
       rw [if_pos rfl] at p; cases p
       exact ⟨_, T.get_set_same _ _ _, List.mem_singleton.2 rfl⟩
      ·rw [if_neg e2] at p
       obtain ⟨ro, q, k⟩ := hr.root b x p dn hb
       have : x.root ≠ id := by intro e3; rw [e3, hg] at q; cases q
       exact ⟨ro, by rw [T.get_set_ne _ _ _ _ this]; exact q, k⟩
     ·intro b1 b2 o1 o2 pl1 pl2 p1 p2 d1 d2 l1 lt e1 e2 ecb
      rw [T.get_set] at p1 p2
      by_cases k2 : b2 = id
      ·subst k2
       rw [Env.add_same] at e2; cases e2
       rw [Env.add_ne _ _ _ _ (by omega)] at e1
       have := hr.bound b1 pl1 e1
       have : pl1.cb = w.heap.size := ecb
       omega
      ·rw [if_neg k2] at p2
       have hb2 := hid b2 o2 p2
       have k1 : b1 ≠ id := by omega
       rw [if_neg k1] at p1
       rw [Env.add_ne _ _ _ _ k1] at e1
       rw [Env.add_ne _ _ _ _ k2] at e2
       exact hr.apart b1 b2 o1 o2 pl1 pl2 p1 p2 d1 d2 l1 lt e1 e2 ecb
     ·intro b q e2
      by_cases k : b = id
      ·subst k; rw [Env.add_same] at e2; cases e2
       show w.heap.size < w'.heap.size
       show _ < (w1.freeze _ 1).heap.size
       rw [freeze_size]; exact hbig
      ·rw [Env.add_ne _ _ _ _ k] at e2; exact hr1.bound b q e2
     ·intro b q e2 hb
      by_cases k : b = id
      ·subst k; rw [Env.add_same] at e2; cases e2; exact hbase
      ·rw [Env.add_ne _ _ _ _ k] at e2; exact hr.new b q e2 hb
     ·intro b q e2 hb
      by_cases k : b = id
      ·subst k; omega
      ·rw [Env.add_ne _ _ _ _ k] at e2; exact hr.old b q e2 hb
     ·exact hr1.base
    exact hr2
   ·exact (((Below.refl _ _).drew).alloc (by simpa using hbase) _).trans (freeze_below hbase)
  ·cases h
 ·cases h
variable {cx : Cx}
theorem orElse_spec {a : Res} {b : Unit → Res} {r : ANext × Hp} (h : orElse a b = some r) : a = some r ∨ b () = some r := by
 unfold orElse at h
 cases a with
 | none => exact .inr h
 | some x => exact .inl h
theorem sim_closed {B : Nat} {E : Env} {H : Hp} {w : World} {id : Nat} (hr : HR B cx.lo E H w) {o : Oper} {ρ ρ' : Operand → Value} (hs : ∀ cs b, o.op ≠ .select cs b) (hρ : ∀ x ∈ o.op.operands.toList, VR E (ρ x) (ρ' x)) {res : ANext × Hp}
  (h : closedRun cx ρ o H = some res) : Sim cx B E w id (execOp ρ' o) res := by
 unfold closedRun at h
 cases hk : o.op.operands.toList.all (fun x => shut (ρ x)) with
 | false => rw [hk] at h; cases h
 | true =>
  rw [hk] at h
  simp only at h
  have heq : execOp ρ o = execOp ρ' o := execOp_congr o hs (fun x hx => by
   have hx' : x ∈ o.op.operands.toList := Array.mem_toList_iff.2 hx
   have := List.all_eq_true.1 hk x hx'
   exact (VR.shut_eq 60 this (hρ x hx')).symm)
  rw [heq] at h
  cases hp : pureRun cx.P (execOp ρ' o) with
  | none => rw [hp] at h; cases h
  | some n =>
   rw [hp] at h
   have hrun := pureRun_sound hp w
   cases n with
   | value v =>
    simp only at h
    cases hv : shut v with
    | false => rw [hv] at h; cases h
    | true =>
     rw [hv] at h; cases h
     exact Sim.same hr hrun (VR.of_shut E hv)
   | skip => simp only at h; cases h; exact Sim.same hr hrun trivial
   | enter f args =>
    simp only at h
    cases hv : args.toList.all shut with
    | false => rw [hv] at h; cases h
    | true =>
     rw [hv] at h; cases h
     exact Sim.same hr hrun ⟨rfl, AR.closed E (d := 60) (by simpa [Go.Ev.shut] using hv)⟩
   | _ => simp at h
theorem sim_len (hc : CxOk cx) {B : Nat} {E : Env} {H : Hp} {w : World} {id : Nat} (hr : HR B cx.lo E H w)
  {argTypes : Array TypeId} {ty : TypeId} {args args' : Array Value} {res : ANext × Hp} (ha : AR E args args') (h : aLen cx argTypes args H = some res) :
  Sim cx B E w id (do pure (Next.value (← Builtin.len_ argTypes ty args'))) res := by
 unfold aLen at h
 split at h
 ·rename_i t a n c h0 a0
  obtain ⟨s', b0, hs⟩ := ha.get a0
  have shape : ∃ a' c', s' = .slice a' n c' := by
   cases hs with
   | shut d _ k => exact ⟨_, _, rfl⟩
   | slice b o l c c' a' pl _ _ _ _ _ _ => exact ⟨_, _, rfl⟩
  obtain ⟨a', c', rfl⟩ := shape
  split at h
  ·rename_i hu
   cases h
   refine Sim.val hr (v' := goInt n) ?_ (.shut 1 _ rfl)
   unfold Builtin.len_
   rw [h0, b0]
   simp [hc.run_und hu]
  ·cases h
 ·rename_i t m h0 a0
  obtain ⟨s', b0, hs⟩ := ha.get a0
  obtain ⟨pl, he, rfl⟩ := hs.map_inv
  split at h
  ·rename_i hu
   cases hm : getMap H m with
   | none => rw [hm] at h; cases h
   | some p =>
    obtain ⟨es, clock⟩ := p
    rw [hm] at h; cases h
    obtain ⟨ces, q1, q2, _⟩ := getMap_spec hr hm he
    refine Sim.val hr (v' := goInt es.length) ?_ (.shut 1 _ rfl)
    unfold Builtin.len_
    rw [h0, b0]
    simp [hc.run_und hu, run_getObj q1 (fun _ _ _ => by simp), q2.1]
  ·cases h
 ·cases h
theorem aCallFunc_spec (hc : CxOk cx) {f : FuncId} {args : Array Value} {H : Hp} {res : ANext × Hp} (h : aCallFunc cx f args H = some res) : res = (.enter f args, H) ∧ ∀ (args' : Array Value) w, (callFunc f args').run cx.P w = .ok (.enter f args') w := by
 unfold aCallFunc at h
 cases hb : cx.body f with
 | none => rw [hb] at h; cases h
 | some fn =>
  rw [hb] at h
  simp only at h
  cases hc2 : fn.body with
  | none => rw [hc2] at h; cases h
  | some c =>
   rw [hc2] at h; cases h
   refine ⟨rfl, fun args' w => ?_⟩
   have hn : ¬ fn.name = "runtime.NumGoroutine" := by simpa using hc.name _ _ hb
   simp [callFunc, hc.body _ _ hb, hn, hc2]
theorem AR.append {E : Env} {a a' b b' : Array Value} (h : AR E a a') (k : AR E b b') : AR E (a ++ b) (a' ++ b') :=
 ⟨by simp [h.1, k.1], fun i v v' p q => by
  rw [Array.getElem?_append] at p q
  rw [← h.1] at q
  split at p
  ·rename_i hi
   rw [if_pos hi] at q
   exact h.2 i v v' p q
  ·rename_i hi
   rw [if_neg hi] at q
   exact k.2 _ v v' p q⟩
theorem AR.one {E : Env} {v v' : Value} (h : VR E v v') : AR E #[v] #[v'] := ⟨rfl, fun i x x' p q => by
 cases i with
 | zero => simp at p q; rw [← p, ← q]; exact h
 | succ i => simp at p⟩
theorem aMethod_spec (hc : CxOk cx) {E : Env} {t : TypeId} {v v' : Value} {name : String} {f : FuncId} {r : Value} (hv : VR E v v') (h : aMethod cx t v name = some (f, r)) :
  ∃ r', VR E r r' ∧ ∀ fuel w, (method (fuel + 1) t v' name).run cx.P w = .ok (f, r') w := by
 unfold aMethod at h
 cases hi : cx.info t with
 | none => rw [hi] at h; cases h
 | some i =>
  rw [hi] at h
  simp only at h
  cases hm : i.methods.find? (·.name == name) with
  | none => rw [hm] at h; cases h
  | some m =>
   rw [hm] at h
   simp only at h
   split at h
   ·rename_i g hp hf hu
    cases h
    have hpl : m.path.toList = [] := by have : m.path = #[] := by simpa using hp
                                        rw [this]
    refine ⟨v', hv, fun fuel w => ?_⟩
    simp [method, hc.run_info hi, hm, hpl, follow, hf, receiverAt, hc.run_und hu, Place.get, hp]
   ·cases h
   ·rename_i g d hnp hp hf hu
    cases h
    have hpl : m.path.toList = [] := by have : m.path = #[] := by simpa using hp
                                        rw [this]
    refine ⟨v', hv, fun fuel w => ?_⟩
    cases d with
    | pointer e => exact absurd rfl (hnp e)
    | _ => simp [method, hc.run_info hi, hm, hpl, follow, hf, receiverAt, hc.run_und hu, Place.get, hp]
   ·cases h
theorem evOp_sim (hc : CxOk cx) {B : Nat} {E : Env} {H : Hp} {w : World} {id : Nat} (hr : HR B cx.lo E H w) (he : E id = none) (hg : H.get id = none) {o : Oper} (hid : (match cat o.op with | .effect => True | _ => False) → ∀ c oc, H.get c = some oc → c < id) (hl : cx.lo ≤ id)
  {ρ ρ' : Operand → Value} (hρ : ∀ x ∈ o.op.operands.toList, VR E (ρ x) (ρ' x)) {res : ANext × Hp} (h : evOp cx ρ o id H = some res) : Sim cx B E w id (execOp ρ' o) res := by
 obtain ⟨dst, op, ty, pos, after, guard⟩ := o
 have closedCase : (∀ cs b, op ≠ .select cs b) → closedRun cx ρ ⟨dst, op, ty, pos, after, guard⟩ H = some res → Sim cx B E w id (execOp ρ' ⟨dst, op, ty, pos, after, guard⟩) res :=
  fun hs hh => sim_closed hr (o := ⟨dst, op, ty, pos, after, guard⟩) hs hρ hh
 cases op with
 | select cs b => simp [evOp] at h
 | move x => cases h; exact Sim.same (x := .value (ρ' x)) hr rfl (hρ x (by simp [Op.operands]))
 | assign x => cases h; exact Sim.same (x := .value (ρ' x)) hr rfl (hρ x (by simp [Op.operands]))
 | pick c a b =>
  have hcv := hρ c (by simp [Op.operands])
  simp only [evOp] at h
  split at h
  ·rename_i t ht
   cases h
   rw [ht] at hcv
   have := hcv.shut_eq 1 rfl
   refine Sim.same (x := .value (if t then ρ' a else ρ' b)) hr ?_ ?_
   ·simp [execOp, this, asBool]
   ·cases t
    ·exact hρ b (by simp [Op.operands])
    ·exact hρ a (by simp [Op.operands])
  ·cases h
 | load t a => exact sim_load hc hr (hρ a (by simp [Op.operands])) h
 | store t a x => exact sim_store hc hr (hρ a (by simp [Op.operands])) (hρ x (by simp [Op.operands])) h
 | fieldAddr s x f => exact sim_fieldAddr hc hr (hρ x (by simp [Op.operands])) h
 | indexAddr t x i => exact sim_indexAddr hc hr (hρ x (by simp [Op.operands])) (hρ i (by simp [Op.operands])) h
 | alloc e => exact sim_alloc hc hr he hg hl h
 | box e x => exact sim_box hc hr he hg hl (hρ x (by simp [Op.operands])) h
 | build t parts => exact sim_build hc hr (parts_map parts (fun p hp => hρ p.2 (by simp only [Op.operands]; exact List.mem_map_of_mem hp))) h
 | buildSlice t len parts => exact sim_buildSlice hc hr he hg hl (parts_map parts (fun p hp => hρ p.2 (by simp only [Op.operands]; exact List.mem_map_of_mem hp))) h
 | field t x k => exact sim_field hc hr (hρ x (by simp [Op.operands])) h
 | extract t k =>
  have hx := hρ t (by simp [Op.operands])
  simp only [evOp] at h
  split at h
  ·rename_i vs hv
   rw [hv] at hx
   split at h
   ·rename_i v hk
    cases h
    exact sim_extract hr hx hk
   ·cases h
  ·cases h
 | nilCheck x =>
  have hx := hρ x (by simp [Op.operands])
  simp only [evOp] at h
  split at h
  ·rename_i a hv
   cases h
   rw [hv] at hx
   refine Sim.same (x := .value (ρ' x)) hr ?_ hx
   have : ∃ a', ρ' x = .pointer (some a') := by
    generalize ρ' x = y at hx
    cases hx with
    | shut d _ k => cases d <;> simp [closed] at k
    | ptr b o pl _ => exact ⟨_, rfl⟩
   obtain ⟨a', e⟩ := this
   simp [execOp, e]
  ·rename_i f a b hv
   cases h
   rw [hv] at hx
   obtain ⟨a', b', e, _, _⟩ := hx.func_inv
   refine Sim.same (x := .value (ρ' x)) hr ?_ hx
   simp [execOp, e]
  ·rename_i t v hv
   cases h
   rw [hv] at hx
   obtain ⟨v', e, _⟩ := hx.iface_inv
   refine Sim.same (x := .value (ρ' x)) hr ?_ hx
   simp [execOp, e]
  ·cases h
 | makeInterface t x =>
  have hx := hρ x (by simp [Op.operands])
  simp only [evOp] at h
  split at h
  ·cases h
  ·rename_i d hn hu
   cases h
   exact sim_makeInterface hc hr hu (fun ms e => hn ms e) hx
  ·cases h
 | makeFunc fn a b =>
  cases h
  refine Sim.same (x := .value (.func fn (a.map ρ') (b.map ρ'))) hr rfl ?_
  have h1 := AR.map a (fun x hx => hρ x (by simp only [Op.operands, Array.toList_append]; exact List.mem_append_left _ hx))
  have h2 := AR.map b (fun x hx => hρ x (by simp only [Op.operands, Array.toList_append]; exact List.mem_append_right _ hx))
  exact .func _ _ _ _ _ h1.1 h2.1 h1.2 h2.2
 | makeMap t r =>
  cases r with
  | none => exact sim_makeMap hc hr he hg hl t h
  | some r => exact closedCase (fun _ _ => by simp) h
 | makeSlice t l c => exact sim_makeSlice hc hr he hg hl (hρ l (by simp [Op.operands])) (hρ c (by simp [Op.operands])) h
 | typeAssert x xt asserted ok =>
  simp only [evOp] at h
  split at h
  ·exact closedCase (fun _ _ => by simp) h
  ·exact sim_typeAssert hc hr (hρ x (by simp [Op.operands])) h
 | lookup t x k ok => exact sim_lookup hc hr (hρ x (by simp [Op.operands])) (hρ k (by simp [Op.operands])) h
 | mapUpdate t m k v => exact sim_mapUpdate hc hr (hρ m (by simp [Op.operands])) (hρ k (by simp [Op.operands])) (hρ v (by simp [Op.operands])) h
 | insert t m k v => exact sim_mapUpdate hc hr (hρ m (by simp [Op.operands])) (hρ k (by simp [Op.operands])) (hρ v (by simp [Op.operands])) h
 | mapEntry t m k => exact sim_mapEntry hc hr (hρ m (by simp [Op.operands])) (hρ k (by simp [Op.operands])) h
 | entryStore t m s v => exact sim_entryStore (t := t) hc hr (hρ m (by simp [Op.operands])) (hρ s (by simp [Op.operands])) (hρ v (by simp [Op.operands])) h
 | range t x => exact sim_range hc hr he hg hl (hρ x (by simp [Op.operands])) h
 | next it s => exact sim_next (t := ty) hc hr (hρ it (by simp [Op.operands])) h
 | index t x i =>
  have hx := hρ x (by simp [Op.operands])
  simp only [evOp] at h
  split at h
  ·rename_i cs hv
   rw [hv] at hx
   exact sim_index hc hr hx (hρ i (by simp [Op.operands])) h
  ·exact closedCase (fun _ _ => by simp) h
 | slice t x lo hi mx =>
  have hx := hρ x (by simp [Op.operands])
  simp only [evOp] at h
  split at h
  ·exact closedCase (fun _ _ => by simp) h
  ·exact closedCase (fun _ _ => by simp) h
  ·exact sim_slice hc hr hx (OptR.map lo (fun a e => hρ a (by subst e; simp [Op.operands]))) (OptR.map hi (fun a e => hρ a (by subst e; simp [Op.operands]))) (OptR.map mx (fun a e => hρ a (by subst e; simp [Op.operands]))) h
 | convert s d x =>
  have hx := hρ x (by simp [Op.operands])
  simp only [evOp] at h
  split at h
  ·exact sim_convert hc hr he hg (hid trivial) hl hx h
  ·rename_i b hv
   rcases orElse_spec h with h | h
   ·exact closedCase (fun _ _ => by simp) h
   ·rw [hv] at hx
    exact sim_convert hc hr he hg (hid trivial) hl hx h
  ·exact closedCase (fun _ _ => by simp) h
 | binOp op t x y yt =>
  have hx := hρ x (by simp [Op.operands])
  have hy := hρ y (by simp [Op.operands])
  simp only [evOp] at h
  rcases orElse_spec h with h | h
  ·exact closedCase (fun _ _ => by simp) h
  ·cases op with
   | eql => exact sim_eq (neq := false) hc hr hx hy h
   | neq => exact sim_eq (neq := true) hc hr hx hy h
   | _ => cases h
 | call c =>
  obtain ⟨callee, cargs, argTypes⟩ := c
  simp only [evOp] at h
  have hargs : ∀ x ∈ cargs.toList, VR E (ρ x) (ρ' x) := fun x hx => hρ x (by simp only [Op.operands, Call.operands, Array.toList_append]; exact List.mem_append_right _ hx)
  have har := AR.map cargs hargs
  cases callee with
  | builtin b =>
   cases b with
   | append => exact sim_append hc hr he hg (hid trivial) hl har h
   | copy => exact sim_copy hc hr har h
   | len =>
    rcases orElse_spec h with h | h
    ·exact sim_len hc hr har h
    ·exact closedCase (fun _ _ => by simp) h
   | _ => exact closedCase (fun _ _ => by simp) h
  | value f =>
   have hf := hρ f (by simp [Op.operands, Call.operands])
   simp only at h
   split at h
   ·rename_i k first captured hv
    rw [hv] at hf
    obtain ⟨first', captured', e, h1, h2⟩ := hf.func_inv
    rcases orElse_spec h with h | h
    ·obtain ⟨rfl, hrun⟩ := aCallFunc_spec hc h
     refine Sim.same (x := .enter k (first' ++ cargs.map ρ' ++ captured')) hr ?_ ⟨rfl, (h1.append har).append h2⟩
     simp [execOp, resolve, e, Deferred.ofValue, invoke, hrun]
    ·exact closedCase (fun _ _ => by simp) h
   ·cases h
  | invoke recv name =>
   have hf := hρ recv (by simp [Op.operands, Call.operands])
   simp only at h
   split at h
   ·rename_i t v hv
    rw [hv] at hf
    obtain ⟨v', e, hv'⟩ := hf.iface_inv
    split at h
    ·rename_i f r hm
     obtain ⟨r', hr1, hrun1⟩ := aMethod_spec hc hv' hm
     rcases orElse_spec h with h | h
     ·obtain ⟨rfl, hrun⟩ := aCallFunc_spec hc h
      refine Sim.same (x := .enter f (#[r'] ++ cargs.map ρ')) hr ?_ ⟨rfl, (AR.one hr1).append har⟩
      have hext : (#[Value.iface t v'] ++ cargs.map ρ').extract 1 (#[Value.iface t v'] ++ cargs.map ρ').size = cargs.map ρ' := by
       apply Array.ext'
       simp
       exact List.take_of_length_le (by simp)
      have hfuel : ∃ k, cx.P.types.size + Made.depth = k + 1 := ⟨cx.P.types.size + 99, rfl⟩
      obtain ⟨k, hk⟩ := hfuel
      have h0 : (#[Value.iface t v'] ++ cargs.map ρ')[0]? = some (Value.iface t v') := by rw [Array.getElem?_append_left (by simp)]; rfl
      have hm2 : (callMethod (.iface t v') name (cargs.map ρ')).run cx.P w = .ok (.enter f (#[r'] ++ cargs.map ρ')) w := by
       show (Sem.bind program fun p => Sem.bind (method (p.types.size + Made.depth) t v' name) fun q => callFunc q.1 (#[q.2] ++ cargs.map ρ')).run cx.P w = _
       rw [Sem.run_bind']
       simp only [run_program, Result.andThen_ok, hk]
       rw [Sem.run_bind', hrun1]
       simp only [Result.andThen_ok, hrun]
      show (invoke (.fn (.method name) #[]) (#[ρ' recv] ++ cargs.map ρ')).run cx.P w = _
      rw [e]
      simp only [invoke, h0, hext]
      exact hm2
     ·exact closedCase (fun _ _ => by simp) h
    ·cases h
   ·cases h
 | _ => exact closedCase (fun _ _ => by simp) h
end Go.Ev
