import Derived.Test.YthopphfehgdocaaGreatDoorGen6
import Derived.Shelf.Strings.Builder1
set_option linter.unusedSimpArgs false
set_option linter.unusedVariables false
namespace Go.Ev
open Go.RowKit Go.Shelf Go.Proofs
variable {P : Program} {ρ : Ren}
theorem liesAt_bytes_off {e : TypeId} (hc : P.cellsOf e = 1) (count off n : Nat) (hn : off + n ≤ count) : liesAt P P.depth e count off e n = true := by
 have hd : P.depth = (2 * (P.types.size + Made.depth) + 1) + 1 := rfl
 rw [hd]
 simp only [liesAt, Bool.or_eq_true]
 left
 rw [hd]
 simp [rowAt, hc, hn, sameLayout, Nat.mod_one]
def ofInts (ns : List Int) (acc : ByteArray) : ByteArray := ns.foldl (fun r n => r.push (UInt8.ofNat n.toNat)) acc
theorem run_loadBytes_ints (w : World) : ∀ (ns : List Int) (b off : Nat) (acc : ByteArray), (∀ j n, ns[j]? = some n → w.cell? ⟨b, off + j, none⟩ = some (.int .u8 n)) →
  (loadBytes ⟨b, off, none⟩ acc ns.length).run P w = .ok (ofInts ns acc) w
 | [], b, off, acc, _ => by simp [loadBytes, ofInts]
 | x :: l, b, off, acc, h => by
  have h0 : w.cell? ⟨b, off, none⟩ = some (.int .u8 x) := h 0 x rfl
  have ih := run_loadBytes_ints w l b (off + 1) (acc.push (UInt8.ofNat x.toNat)) (fun j y hy => by
   have := h (j + 1) y (by simpa using hy)
   rw [show off + 1 + j = off + (j + 1) by omega]
   exact this)
  have e1 : (⟨b, off, none⟩ : Addr).add 1 = ⟨b, off + 1, none⟩ := addr_add _ _ _
  simp only [List.length_cons, loadBytes, Sem.run_bind, run_load, h0, Result.andThen, e1]
  exact ih
theorem run_unsafeString_off (w : World) (pt it ty e : TypeId) (hp : P.underlying pt = some (.pointer e)) (hc : P.cellsOf e = 1) (g off cells : Nat) (hsh : w.shape? g = some (e, cells)) (l : List Int) (h0 : l ≠ []) (hn : off + l.length ≤ cells) (h63 : l.length ≤ 9223372036854775807)
  (hcell : ∀ j x, l[j]? = some x → w.cell? ⟨g, off + j, none⟩ = some (.int .u8 x)) :
  (Builtin.unsafeString_ #[pt, it] ty #[.pointer (some ⟨g, off, none⟩), .int .i64 l.length]).run P w = .ok (.string (ofInts l .empty)) (w.freeze ⟨g, off, none⟩ l.length) := by
 have hl : l.length ≠ 0 := by simpa using h0
 have hlb := run_loadBytes_ints (P := P) w l g off .empty hcell
 have hlies := liesAt_bytes_off (P := P) hc (cells / P.cellsOf e) off l.length (by rw [hc]; simpa using hn)
 have h63' : ¬ (9223372036854775807 : Int) < (l.length : Int) := by omega
 have hdef : Builtin.unsafeString_ #[pt, it] ty #[.pointer (some ⟨g, off, none⟩), .int .i64 l.length] =
   (do
    let n ← asInt (.int .i64 l.length)
    if n < 0 then runtimePanic (.error _)
    if n > IntKind.i64.max then unsupported _
    if n = 0 then pure (.string .empty)
    else if ← variablesAt ⟨g, off, none⟩ (← elemOf pt) n.toNat then do
     let s ← loadBytes ⟨g, off, none⟩ .empty n.toNat
     freeze ⟨g, off, none⟩ n.toNat
     pure (.string s)
    else unsupported _) := rfl
 rw [hdef]
 have hmax : IntKind.i64.max = 9223372036854775807 := rfl
 have hneg : ¬ (l.length : Int) < 0 := by omega
 simp [asInt, asIntOf, hmax, h63', hneg, hl, variablesAt, hsh, elemOf, run_underlying hp, hlies, hlb]
set_option maxHeartbeats 4000000 in
set_option maxRecDepth 100000 in
theorem str_hit (L : Lays.n169 P ρ) (X : Builder.Extra P ρ) (b g off m cap : Nat) (l : List Int) (w : World) (h1 : w.cell? ⟨b, 1, none⟩ = some (.slice (some ⟨g, off, none⟩) l.length cap))
  (hsh : w.shape? g = some (ρ.t 5, m)) (h0 : l ≠ []) (hcap : l.length ≤ cap) (hn : off + l.length ≤ m) (h63 : l.length ≤ 9223372036854775807)
  (hcell : ∀ j x, l[j]? = some x → w.cell? ⟨g, off + j, none⟩ = some (.int .u8 x)) :
  Calls P (ρ.f 169) #[.pointer (some ⟨b, 0, none⟩)] w fun e w' => e = .returned (.string (ofInts l .empty)) ∧ w' = w.drew.freeze ⟨g, off, none⟩ l.length := by
 have hl0 : l.length ≠ 0 := by simpa using h0
 have c1 : w.drew.cell? ⟨b, 1, none⟩ = some (.slice (some ⟨g, off, none⟩) l.length cap) := h1
 have hSD : (Builtin.unsafeSliceData_ #[(ρ.t 37)] (ρ.t 127) #[.slice (some ⟨g, off, none⟩) l.length cap]).run P w.drew = .ok (.pointer (some ⟨g, off, none⟩)) w.drew :=
  Lib.run_unsafeSliceData_row _ _ _ _ _ _ (by omega)
 have hUS : (Builtin.unsafeString_ #[(ρ.t 127), (ρ.t 3)] (ρ.t 9) #[.pointer (some ⟨g, off, none⟩), .int .i64 l.length]).run P w.drew = .ok (.string (ofInts l .empty)) (w.drew.freeze ⟨g, off, none⟩ l.length) :=
  run_unsafeString_off w.drew (ρ.t 127) (ρ.t 3) (ρ.t 9) (ρ.t 5) L.t127 X.cellsByte g off m hsh l h0 hn h63 hcell
 have mixed := L.mixed
 have t72 := L.t72; have a72 := L.a72; have z72 := L.z72; have v72 := L.v72; have u72 := run_underlying L.t72
 have t70 := L.t70; have a70 := L.a70; have z70 := L.z70; have v70 := L.v70; have u70 := run_underlying L.t70
 have t37 := L.t37; have a37 := L.a37; have z37 := L.z37; have v37 := L.v37; have u37 := run_underlying L.t37
 have t127 := L.t127; have a127 := L.a127; have z127 := L.z127; have v127 := L.v127; have u127 := run_underlying L.t127
 have t3 := L.t3; have a3 := L.a3; have z3 := L.z3; have v3 := L.v3; have u3 := run_underlying L.t3
 have t9 := L.t9; have a9 := L.a9; have z9 := L.z9; have v9 := L.v9; have u9 := run_underlying L.t9
 have t5 := X.t5; have a5 := X.a5; have z5 := X.z5; have v5 := X.v5; have u5 := run_underlying X.t5
 go_enter L.f169, Body.n169_ntmps ρ
 go_wp2
 go_region_o
 all_goals (go_wp2; go_ret; exact ⟨rfl, rfl⟩)
set_option maxHeartbeats 4000000 in
set_option maxRecDepth 100000 in
theorem str_nil (L : Lays.n169 P ρ) (X : Builder.Extra P ρ) (b : Nat) (w : World) (h1 : w.cell? ⟨b, 1, none⟩ = some (.slice none 0 0)) :
  Calls P (ρ.f 169) #[.pointer (some ⟨b, 0, none⟩)] w fun e w' => e = .returned (.string ⟨#[]⟩) ∧ w' = w.drew := by
 have hUS := Any.unsafeString_none L X
 have c1 : w.drew.cell? ⟨b, 1, none⟩ = some (.slice none 0 0) := h1
 have hSD : (Builtin.unsafeSliceData_ #[(ρ.t 37)] (ρ.t 127) #[.slice none 0 0]).run P w.drew = .ok (.pointer none) w.drew := rfl
 have mixed := L.mixed
 have t72 := L.t72; have a72 := L.a72; have z72 := L.z72; have v72 := L.v72; have u72 := run_underlying L.t72
 have t70 := L.t70; have a70 := L.a70; have z70 := L.z70; have v70 := L.v70; have u70 := run_underlying L.t70
 have t37 := L.t37; have a37 := L.a37; have z37 := L.z37; have v37 := L.v37; have u37 := run_underlying L.t37
 have t127 := L.t127; have a127 := L.a127; have z127 := L.z127; have v127 := L.v127; have u127 := run_underlying L.t127
 have t3 := L.t3; have a3 := L.a3; have z3 := L.z3; have v3 := L.v3; have u3 := run_underlying L.t3
 have t9 := L.t9; have a9 := L.a9; have z9 := L.z9; have v9 := L.v9; have u9 := run_underlying L.t9
 have t5 := X.t5; have a5 := X.a5; have z5 := X.z5; have v5 := X.v5; have u5 := run_underlying X.t5
 go_enter L.f169, Body.n169_ntmps ρ
 go_wp2
 go_region_o
 all_goals (go_wp2; go_ret; exact ⟨rfl, rfl⟩)
variable {ρ : Ren}
def cellsOfObj (ob : AObj) : Option Nat := match ob.dat with
 | some (.cells n _) => some n
 | _ => none
def ccI (cx0 : Cx) (tB : TypeId) (args : Array Value) (H : Hp) (nx : Nat) : Option (Value × Hp × Nat) :=
 match args.toList with
 | [.pointer (some ⟨b, 0, none⟩)] => match H.get b with
  | none => none
  | some ob => match Nat.beq ob.elem tB && ob.exact && Nat.ble cx0.lo b, cellsOfObj ob, loadN H b 0 1 with
   | true, some 2, some [.pointer none] => match storeN cx0 H b 0 [addrV b 0] with
    | none => none
    | some H' => some (.tuple #[], H', nx)
   | true, some 2, some [.pointer (some ⟨c, 0, none⟩)] => match Nat.beq b c with
    | true => some (.tuple #[], H, nx)
    | false => none
   | _, _, _ => none
 | _ => none
def strI (cx0 : Cx) (tB tByte : TypeId) (args : Array Value) (H : Hp) (nx : Nat) : Option (Value × Hp × Nat) :=
 match args.toList with
 | [.pointer (some ⟨b, 0, none⟩)] => match H.get b with
  | none => none
  | some ob => match Nat.beq ob.elem tB && ob.exact && Nat.ble cx0.lo b, cellsOfObj ob, loadN H b 1 1 with
   | true, some 2, some [.slice none 0 0] => some (.string ByteArray.empty, H, nx)
   | true, some 2, some [.slice (some ⟨g, o, none⟩) l _] => match H.get g with
    | none => none
    | some og => match Nat.beq og.elem tByte && Nat.ble cx0.lo g && Nat.ble 1 l && Nat.ble l 9223372036854775807, loadN H g o l, H.get og.root with
     | true, some vs, some ro => match bytesOf vs ByteArray.empty, killAll H (fun _ => false) ro.kin with
      | some s, some H2 => some (.string s, H2, nx)
      | _, _ => none
     | _, _, _ => none
   | _, _, _ => none
 | _ => none
theorem HR.turned {B lo : Nat} {E : Env} {H : Hp} {w w' : World} (h : HR B lo E H w) (hs : w.heap.size ≤ w'.heap.size)
  (hk : ∀ c oc plc, H.get c = some oc → oc.dat ≠ none → E c = some plc → w'.heap[plc.cb]? = w.heap[plc.cb]?) : HR B lo E H w' where
 dat b o p := by
  obtain ⟨pl, q, r⟩ := h.dat b o p
  refine ⟨pl, q, ?_⟩
  by_cases hn : o.dat = none
  ·unfold DatR; rw [hn]; trivial
  ·exact r.keep (Env.le_refl E) (hk b o pl p hn q)
 root := h.root
 apart := h.apart
 bound b pl q := Nat.lt_of_lt_of_le (h.bound b pl q) hs
 new := h.new
 old := h.old
 base := Nat.le_trans h.base hs
theorem ccI_mono (cx0 : Cx) (tB : TypeId) (f : FuncId) : MonoC (fun f' args H nx => if f' = f then ccI cx0 tB args H nx else none) := by
 intro f' args H nx v H' nx' h G X ho hX
 by_cases hf : f' = f
 ·simp only [hf, if_true] at h ⊢
  unfold ccI at h ⊢
  split at h
  ·rename_i b ha
   cases hb : H.get b with
   | none => simp only [hb] at h; cases h
   | some ob =>
    simp only [hb] at h
    simp only [ho.get hb]
    split at h
    ·rename_i h1 h2 h3
     have h3' := loadN_mono b 0 1 H _ G X h3 ho
     simp only at h3'
     simp only [h1, h2, h3']
     cases hs : storeN cx0 H b 0 [addrV b 0] with
     | none => rw [hs] at h; cases h
     | some H1 =>
      rw [hs] at h; cases h
      obtain ⟨k1, G', k2, k3⟩ := storeN_mono (cx := cx0) _ _ _ _ _ _ _ hs ho
      dsimp only at k2
      simp only [k2]
      exact ⟨Nat.le_refl _, k1, G', rfl, k3⟩
    ·rename_i c h1 h2 h3
     have h3' := loadN_mono b 0 1 H _ G X h3 ho
     simp only at h3'
     simp only [h1, h2, h3']
     cases hc : Nat.beq b c with
     | false => rw [hc] at h; cases h
     | true =>
      rw [hc] at h; cases h
      exact ⟨Nat.le_refl _, Kept.refl _, G, rfl, ho⟩
    ·cases h
  ·cases h
 ·simp only [hf, if_false] at h; cases h
theorem strI_mono (cx0 : Cx) (tB tByte : TypeId) (f : FuncId) : MonoC (fun f' args H nx => if f' = f then strI cx0 tB tByte args H nx else none) := by
 intro f' args H nx v H' nx' h G X ho hX
 by_cases hf : f' = f
 ·simp only [hf, if_true] at h ⊢
  unfold strI at h ⊢
  split at h
  ·rename_i b ha
   cases hb : H.get b with
   | none => simp only [hb] at h; cases h
   | some ob =>
    simp only [hb] at h
    simp only [ho.get hb]
    split at h
    ·rename_i h1 h2 h3
     have h3' := loadN_mono b 1 1 H _ G X h3 ho
     simp only at h3'
     simp only [h1, h2, h3']
     cases h
     exact ⟨Nat.le_refl _, Kept.refl _, G, rfl, ho⟩
    ·rename_i g o l c h1 h2 h3
     have h3' := loadN_mono b 1 1 H _ G X h3 ho
     simp only at h3'
     simp only [h1, h2, h3']
     cases hg : H.get g with
     | none => simp only [hg] at h; cases h
     | some og =>
      simp only [hg] at h
      simp only [ho.get hg]
      split at h
      ·rename_i vs ro k1 k2 k3
       have k2' := loadN_mono g o l H _ G X k2 ho
       simp only at k2'
       simp only [k1, k2', ho.get k3]
       split at h
       ·rename_i s H2 j1 j2
        obtain ⟨m1, G', m2, m3⟩ := killAll_mono _ _ _ _ _ _ j2 ho
        dsimp only at m2
        simp only [j1, m2]
        cases h
        exact ⟨Nat.le_refl _, m1, G', rfl, m3⟩
       ·cases h
      ·cases h
    ·cases h
  ·cases h
 ·simp only [hf, if_false] at h; cases h
theorem one_arg {E : Env} {args args' : Array Value} {v : Value} (har : AR E args args') (h : args.toList = [v]) : ∃ v', args' = #[v'] ∧ VR E v v' := by
 have hl := har.list
 rw [h] at hl
 match hq : args'.toList, hl with
 | [], hl => have := hl.1; simp at this
 | x :: y :: r, hl => have := hl.1; simp at this
 | [x'], hl => exact ⟨x', by cases args'; simp at hq; subst hq; rfl, hl.head⟩
theorem exact_spec {cx : Cx} {B : Nat} {E : Env} {H : Hp} {w : World} (hr : HR B cx.lo E H w) {b n : Nat} {ob : AObj} {pl : Place} (hg : H.get b = some ob) (hc : cellsOfObj ob = some n) (hx : ob.exact = true) (hlo : cx.lo ≤ b) (he : E b = some pl) :
  pl.sh = 0 ∧ w.shape? pl.cb = some (ob.elem, n) ∧ ∃ cs, CellsR cx.lo E b ob pl w n cs := by
 unfold cellsOfObj at hc
 split at hc
 ·rename_i m cs hd
  cases hc
  have c := cellsR_of hr hg hd he
  obtain ⟨k, h1, h2⟩ := c.shape hlo
  obtain ⟨rfl, h4⟩ := h2 hx
  exact ⟨h4, h1, cs, c⟩
 ·cases hc
theorem fresh_heap {cx : Cx} {B : Nat} {E : Env} {H H' : Hp} {w' : World} {nx : Nat} (hf : Fresh cx E H nx) (hr : HR B cx.lo E H' w') : Fresh cx E H' nx :=
 ⟨hf.env, fun i hi => (by
  cases hg' : H'.get i with
  | none => rfl
  | some ob => obtain ⟨pl2, q, _⟩ := hr.dat _ _ hg'; rw [hf.env i hi] at q; cases q), hf.lo⟩
theorem ccI_sound (cx0 : Cx) (i : FuncId → Option (Array Value → Hp → Nat → Option (Value × Hp × Nat))) (L : Lays.n240 cx0.P ρ) (X : Builder.X72 cx0.P ρ) :
  Sound { cx0 with intr := i } (fun f' args H nx => if f' = ρ.f 240 then ccI cx0 (ρ.t 72) args H nx else none) := by
 intro f args H nx v H' nx' h B E w args' hW hr hf hg har
 by_cases hf0 : f = ρ.f 240
 ·subst hf0
  simp only [if_true] at h
  unfold ccI at h
  split at h
  ·rename_i b ha
   obtain ⟨v', rfl, hv⟩ := one_arg har ha
   obtain ⟨pl, hpl, rfl⟩ := hv.ptr_inv
   cases hb : H.get b with
   | none => simp only [hb] at h; cases h
   | some ob =>
    simp only [hb] at h
    have hr0 : HR B cx0.lo E H w := hr
    split at h
    ·rename_i h1 h2 h3
     simp only [Bool.and_eq_true] at h1
     have hlo : cx0.lo ≤ b := Nat.le_of_ble_eq_true h1.2
     obtain ⟨hsh0, hshape, cs, hcr⟩ := exact_spec hr0 hb h2 h1.1.2 hlo hpl
     rw [Nat.eq_of_beq_eq_true h1.1.1] at hshape
     obtain ⟨pl', l', e1, e2, e3, e4⟩ := loadN_spec hr0 h3
     rw [hpl] at e1; cases e1
     obtain ⟨x', hx', hxv⟩ := e3.get (i := 0) (v := .pointer none) rfl
     have := hxv.shut_eq 1 rfl
     subst this
     have c0 := e4 0 _ hx'
     rw [hsh0] at c0
     simp only [hsh0, Nat.zero_add, Nat.add_zero] at c0 ⊢
     cases hs : storeN cx0 H b 0 [addrV b 0] with
     | none => rw [hs] at h; cases h
     | some H1 =>
      rw [hs] at h; cases h
      have hvr : LR E [addrV b 0] [.pointer (some ⟨pl.cb, 0, none⟩)] := by
       refine LR.cons ?_ (LR.nil E)
       have := VR.ptr (E := E) b 0 pl hpl
       rw [hsh0] at this
       exact this
      obtain ⟨pl', w', q1, q2, q3, q4, q5⟩ := storeN_spec (cx := cx0) hr0 hs hvr
      rw [hpl] at q1; cases q1
      have hst := run_storeCells_cells (P := cx0.P) pl.cb (pl.sh + 0) [.pointer (some ⟨pl.cb, 0, none⟩)] 0 w
       (fun j hj => hcr.there _ (by have := hcr.fits; simp at hj; omega)) (fun j hj => hcr.soft hlo _ (by have := hcr.fits; simp at hj; omega)) (fun v hv => by simp at hv; subst hv; rfl)
      simp only [Nat.add_zero] at hst q3
      rw [hst] at q3
      have hw' : w' = w.setCells pl.cb pl.sh [.pointer (some ⟨pl.cb, 0, none⟩)] := by cases q3; rfl
      have hw2 : w' = w.setCell ⟨pl.cb, 0, none⟩ (.pointer (some ⟨pl.cb, 0, none⟩)) := by rw [hw', hsh0]; rfl
      refine (Any.Builder_copyCheck_fresh L X pl.cb w c0 hshape (hcr.soft hlo 0 (by have := hcr.fits; omega))).mono ?_
      rintro ev w2 ⟨rfl, rfl⟩
      rw [← hw2]
      exact ⟨_, E, rfl, ⟨.shut 2 _ rfl, Env.le_refl _, fun _ _ => rfl, q4, q5, fresh_heap hf q4, Nat.le_refl _⟩⟩
    ·rename_i c h1 h2 h3
     simp only [Bool.and_eq_true] at h1
     have hlo : cx0.lo ≤ b := Nat.le_of_ble_eq_true h1.2
     obtain ⟨hsh0, hshape, cs, hcr⟩ := exact_spec hr0 hb h2 h1.1.2 hlo hpl
     cases hc : Nat.beq b c with
     | false => rw [hc] at h; cases h
     | true =>
      rw [hc] at h; cases h
      have := Nat.eq_of_beq_eq_true hc
      subst this
      obtain ⟨pl', l', e1, e2, e3, e4⟩ := loadN_spec hr0 h3
      rw [hpl] at e1; cases e1
      obtain ⟨x', hx', hxv⟩ := e3.get (i := 0) (v := .pointer (some ⟨b, 0, none⟩)) rfl
      obtain ⟨pl', hpl', rfl⟩ := hxv.ptr_inv
      rw [hpl] at hpl'; cases hpl'
      have c0 := e4 0 _ hx'
      simp only [hsh0, Nat.zero_add, Nat.add_zero] at c0 ⊢
      refine (Any.Builder_copyCheck_used L X pl.cb w c0).mono ?_
      rintro ev w2 ⟨rfl, rfl⟩
      exact ⟨_, E, rfl, ⟨.shut 2 _ rfl, Env.le_refl _, fun _ _ => rfl, hr, Below.refl _ _, hf, Nat.le_refl _⟩⟩
    ·cases h
  ·cases h
 ·simp only [hf0, if_false] at h; cases h
theorem strI_sound (cx0 : Cx) (i : FuncId → Option (Array Value → Hp → Nat → Option (Value × Hp × Nat))) (L : Lays.n169 cx0.P ρ) (X : Builder.Extra cx0.P ρ) :
  Sound { cx0 with intr := i } (fun f' args H nx => if f' = ρ.f 169 then strI cx0 (ρ.t 72) (ρ.t 5) args H nx else none) := by
 intro f args H nx v H' nx' h B E w args' hW hr hf hg har
 by_cases hf0 : f = ρ.f 169
 ·subst hf0
  simp only [if_true] at h
  unfold strI at h
  split at h
  ·rename_i b ha
   obtain ⟨v', rfl, hv⟩ := one_arg har ha
   obtain ⟨pl, hpl, rfl⟩ := hv.ptr_inv
   cases hb : H.get b with
   | none => simp only [hb] at h; cases h
   | some ob =>
    simp only [hb] at h
    have hr0 : HR B cx0.lo E H w := hr
    split at h
    ·rename_i h1 h2 h3
     simp only [Bool.and_eq_true] at h1
     have hlo : cx0.lo ≤ b := Nat.le_of_ble_eq_true h1.2
     obtain ⟨hsh0, hshape, cs, hcr⟩ := exact_spec hr0 hb h2 h1.1.2 hlo hpl
     obtain ⟨pl', l', e1, e2, e3, e4⟩ := loadN_spec hr0 h3
     rw [hpl] at e1; cases e1
     obtain ⟨x', hx', hxv⟩ := e3.get (i := 0) (v := .slice none 0 0) rfl
     have := hxv.shut_eq 1 rfl
     subst this
     have c0 := e4 0 _ hx'
     simp only [hsh0, Nat.zero_add, Nat.add_zero] at c0 ⊢
     cases h
     refine (str_nil L X pl.cb w c0).mono ?_
     rintro ev w2 ⟨rfl, rfl⟩
     exact ⟨_, E, rfl, ⟨.shut 1 _ rfl, Env.le_refl _, fun _ _ => rfl, hr.drew, (Below.refl _ _).drew, hf, Nat.le_refl _⟩⟩
    ·rename_i g o l c h1 h2 h3
     simp only [Bool.and_eq_true] at h1
     have hlo : cx0.lo ≤ b := Nat.le_of_ble_eq_true h1.2
     obtain ⟨hsh0, hshape, cs, hcr⟩ := exact_spec hr0 hb h2 h1.1.2 hlo hpl
     obtain ⟨pl', l', e1, e2, e3, e4⟩ := loadN_spec hr0 h3
     rw [hpl] at e1; cases e1
     obtain ⟨x', hx', hxv⟩ := e3.get (i := 0) (v := .slice (some ⟨g, o, none⟩) l c) rfl
     obtain ⟨plg, c', a', hplg, rfl, hlc, hcc, hex, haddr, hnon⟩ := hxv.slice_inv
     have c0 := e4 0 _ hx'
     simp only [hsh0, Nat.zero_add, Nat.add_zero] at c0 ⊢
     cases hgg : H.get g with
     | none => simp only [hgg] at h; cases h
     | some og =>
      simp only [hgg] at h
      split at h
      ·rename_i vs ro k1 k2 k3
       split at h
       ·rename_i s H2 j1 j2
        cases h
        simp only [Bool.and_eq_true] at k1
        obtain ⟨⟨⟨k4, k5⟩, k6⟩, k7⟩ := k1
        have k4 := Nat.eq_of_beq_eq_true k4
        have k5 : cx0.lo ≤ g := Nat.le_of_ble_eq_true k5
        have k6 : 1 ≤ l := Nat.le_of_ble_eq_true k6
        have k7 : l ≤ 9223372036854775807 := Nat.le_of_ble_eq_true k7
        have ha' := haddr (by omega)
        subst ha'
        obtain ⟨n, csg, hdg, hon⟩ : ∃ n csg, og.dat = some (.cells n csg) ∧ o + l ≤ n := by
         unfold loadN at k2
         rw [hgg] at k2
         simp only at k2
         cases hdd : og.dat with
         | none => simp [hdd] at k2
         | some dd => cases dd with
          | cells n csg =>
           simp only [hdd] at k2
           split at k2
           ·rename_i hle; exact ⟨n, csg, rfl, Nat.le_of_ble_eq_true hle⟩
           ·cases k2
          | _ => simp [hdd] at k2
        have hcg := cellsR_of hr0 hgg hdg hplg
        obtain ⟨m, hm, _⟩ := hcg.shape k5
        rw [k4] at hm
        obtain ⟨pl2, l2, f1, f2, f3, f4⟩ := loadN_spec hr0 k2
        rw [hplg] at f1; cases f1
        obtain ⟨ns, r1, r2⟩ := bytesOf_spec vs l2 _ s f3 j1
        have hnl : ns.length = l := by have := f3.1; rw [r1] at this; simp at this; omega
        have hcell : ∀ j x, ns[j]? = some x → w.cell? ⟨plg.cb, plg.sh + o + j, none⟩ = some (.int .u8 x) := fun j x hx => f4 j _ (by rw [r1]; simp [hx])
        have hfitm : plg.sh + o + ns.length ≤ m := by
         have hlast : ns.length - 1 < ns.length := by omega
         have := hcell (ns.length - 1) _ (List.getElem?_eq_getElem hlast)
         have hlt : plg.sh + o + (ns.length - 1) < m := by
          unfold World.cell? at this
          unfold World.shape? at hm
          cases hq : w.heap[plg.cb]? with
          | none => simp [hq] at this
          | some ob2 => cases ob2 with
           | cells cc tt ff =>
            simp only [hq] at this hm
            cases hm
            simp at this
            exact (Array.getElem?_eq_some_iff.1 this).1
           | _ => simp [hq] at this
         omega
        have hne : ns ≠ [] := by intro e; rw [e] at hnl; simp at hnl; omega
        have hcall := str_hit L X pl.cb plg.cb (plg.sh + o) m c' ns w (by rw [hnl]; exact c0) hm hne (by omega) hfitm (by omega) hcell
        refine hcall.mono ?_
        rintro ev w2 ⟨rfl, rfl⟩
        have hB : B ≤ plg.cb := hr0.new g plg hplg k5
        have hbelow : Below B w (w.drew.freeze ⟨plg.cb, plg.sh + o, none⟩ ns.length) := Lib.below_freeze ((Below.refl B w).drew) (p := ⟨plg.cb, plg.sh + o, none⟩) hB _
        obtain ⟨kd, kp, ot⟩ := killAll_spec _ _ _ j2
        have hr2 : HR B cx0.lo E H' w := hr0.killed kd
        have hr3 : HR B cx0.lo E H' (w.drew.freeze ⟨plg.cb, plg.sh + o, none⟩ ns.length) := by
         refine hr2.turned (hbelow.size) (fun cc oc plc p dn e => ?_)
         have hne2 : plc.cb ≠ plg.cb := by
          intro ecb
          obtain ⟨oc0, y⟩ := kd.back cc oc p
          obtain ⟨o', x1, x2, x3, x4, x5⟩ := kd.get cc oc0 y
          rw [p] at x1; cases x1
          have hoc : oc = oc0 := x4.resolve_right dn
          subst hoc
          have hlc2 : cx0.lo ≤ cc := by
           rcases Nat.lt_or_ge cc cx0.lo with q | q
           ·have := hr0.old cc plc e q; omega
           ·exact q
          have hgd : og.dat ≠ none := by rw [hdg]; simp
          have hrt : oc.root = og.root := by
           rcases Nat.lt_trichotomy cc g with q | q | q
           ·exact (hr0.apart cc g oc og plc plg y hgg dn hgd hlc2 q e hplg ecb).1
           ·subst q; rw [hgg] at y; cases y; rfl
           ·exact (hr0.apart g cc og oc plg plc hgg y hgd dn k5 q hplg e ecb.symm).1.symm
          obtain ⟨ro2, z1, z2⟩ := hr0.root cc oc y dn hlc2
          rw [hrt, k3] at z1; cases z1
          exact dn (x5 ⟨z2, rfl⟩)
         show (w.drew.freeze _ _).heap[_]? = _
         rw [freeze_heap hne2]
         rfl
        refine ⟨_, E, rfl, ⟨?_, Env.le_refl _, fun _ _ => rfl, hr3, hbelow, fresh_heap hf hr3, Nat.le_refl _⟩⟩
        rw [r2]
        exact .shut 1 _ rfl
       ·cases h
      ·cases h
    ·cases h
  ·cases h
 ·simp only [hf0, if_false] at h; cases h
end Go.Ev
namespace Go.Ev
open Go.RowKit
variable {cx : Cx}
structure Start (cx : Cx) (H0 : Hp) (E0 : Env) (w : World) : Prop where
 dat : ∀ b o, H0.get b = some o → ∃ pl, E0 b = some pl ∧ DatR cx.lo E0 b o pl w
 low : ∀ b pl, E0 b = some pl → b < cx.lo ∧ pl.cb < w.heap.size
 globs : Globs cx E0
theorem Start.hr {H0 : Hp} {E0 : Env} {w : World} (s : Start cx H0 E0 w) : HR w.heap.size cx.lo E0 H0 w where
 dat := s.dat
 root b o p hx hb := by
  obtain ⟨pl, q, _⟩ := s.dat b o p
  have := (s.low b pl q).1
  omega
 apart b1 b2 o1 o2 pl1 pl2 p1 p2 d1 d2 l1 lt e1 e2 ecb := by
  have := (s.low b1 pl1 e1).1
  omega
 bound b pl q := (s.low b pl q).2
 new b pl q hb := by have := (s.low b pl q).1; omega
 old b pl q hb := (s.low b pl q).2
 base := Nat.le_refl _
theorem Start.fresh {H0 : Hp} {E0 : Env} {w : World} (s : Start cx H0 E0 w) : Fresh cx E0 H0 cx.lo where
 env i hi := by
  cases h : E0 i with
  | none => rfl
  | some pl => have := (s.low i pl h).1; omega
 heap i hi := by
  cases h : H0.get i with
  | none => rfl
  | some o => obtain ⟨pl, q, _⟩ := s.dat i o h; have := (s.low i pl q).1; omega
 lo := Nat.le_refl _
theorem ev_start (hc : CxOk cx) (hI : IntrOk cx) {n : Nat} {f : FuncId} {args args' : Array Value} {v : Value} {H0 H' : Hp} {nx' : Nat} {E0 : Env} (w : World) (s : Start cx H0 E0 w) (hW : cx.Wp w.heap.size w)
  (har : AR E0 args args') (h : evFunc cx n f args H0 cx.lo = some (v, H', nx')) (hv : shut v = true) :
  Calls cx.P f args' w fun e w' => e = .returned v ∧ Below w.heap.size w w' := by
 refine (ev_sound hc hI n f args H0 cx.lo v H' nx' h w.heap.size E0 w args' hW s.hr s.fresh s.globs har).mono ?_
 rintro e w' ⟨v', E', rfl, D⟩
 have := D.val.shut_eq 60 (by simpa [shut] using hv)
 subst this
 exact ⟨rfl, D.below⟩
def gPlace (g n esz : Nat) : Place := { cb := g, sh := 0, cap := n, esz, exact := true }
theorem datR_var {lo : Nat} {E : Env} {w : World} {g : Nat} {o : AObj} {vs vs' : List Value} (hlo : g < lo) (hd : o.dat = some (.cells vs.length (T.setList .nil 0 vs))) (hx : o.exact = true)
  (hv : LR E vs vs') (hc : ∀ i v', vs'[i]? = some v' → w.cell? ⟨g, i, none⟩ = some v') : DatR lo E g o (gPlace g vs.length o.esz) w := by
 unfold DatR
 rw [hd]
 refine ⟨fun k hk => ?_, fun hl => by omega, by simp [gPlace], rfl, by rw [hx]; rfl, fun hl => by omega, fun i hi => ?_⟩
 ·have hk' : k < vs'.length := by rw [← hv.1]; exact hk
  show (w.cell? ⟨g, k, none⟩).isSome = true
  rw [hc k _ (List.getElem?_eq_getElem hk')]; rfl
 ·have hi' : i < vs'.length := by rw [← hv.1]; exact hi
  refine ⟨vs[i], vs'[i], by rw [T.get_setList, if_pos (by omega)]; simp [hi], ?_, hv.2 i _ _ (List.getElem?_eq_getElem hi) (List.getElem?_eq_getElem hi')⟩
  show w.cell? ⟨g, 0 + i, none⟩ = _
  rw [Nat.zero_add]
  exact hc i _ (List.getElem?_eq_getElem hi')
end Go.Ev
