import Derived.Test.YthopphfehgdocaaGreatDoorVd
set_option linter.unusedSimpArgs false
set_option linter.unusedVariables false
namespace Go.Proofs.YthopphfehgdocaaGreatDoor
open Go Go.RowKit Go.Ev Go.Proofs Go.Shelf
noncomputable def fsW (Y M D ho mi : Int) (S : Nat) (W J n iy iw su mo : Int) (f : ByteArray) : St := match evDrawO (withB laW lpV) hk (evFuncO (withB laW lpV) hk 30) f9ops 21 (st5 Y M D ho mi S W J n iy iw su mo f) [] with
 | some r => r.1
 | none => canon 0 0 [] []
section
variable (Y M D ho mi : Int) (S : Nat) (W J n iy iw su mo : Int) (f : ByteArray)
theorem fsW_ok : evDraw (withB laW lpV) (evFunc (withB laW lpV) 30) f9ops 21 (st5 Y M D ho mi S W J n iy iw su mo f) = some (fsW Y M D ho mi S W J n iy iw su mo f) :=
 orc_draw (hkB laW lpV) (m := []) (l := []) (by kernel_rfl) (by kernel_rfl) (by kernel_rfl) aN
end
theorem fn0 (Y M D ho mi : Int) (S : Nat) (W J n iy iw su mo : Int) (f : ByteArray)  {Q : AExit → St → Prop} {c' : Code} {lc' : List Code} (hq : TrL (withB laW lpV) 110 66 (c' :: lc') (canon 7 111 [(1, .pointer (some ⟨13, 0, none⟩)), (2, .string f), (3, .map (some 24)), (4, .pointer (some ⟨110, 0, none⟩)), (8, .int .i64 0)] ((13, 13, mkCells 13 68 2 true [.pointer none, .slice none 0 0]) :: (110, 110, mkCells 110 62 13 true (moV Y M D ho mi S W J n iy iw su mo)) :: wcBx)) Q) : TrL (withB laW lpV) 110 66 ((bodyOf Tryz.f34).take 2 ++ c' :: lc') (entry Tryz.f34 #[.agg (moV Y M D ho mi S W J n iy iw su mo).toArray, .pointer (some ⟨13, 0, none⟩), .string f, .map (some 24)] (fsW Y M D ho mi S W J n iy iw su mo f).H 110) Q :=
 TrL.road (hkB laW lpV) (CxOk.withB laW lpV) (withB_intr laW_sound lpV_sound) (m := []) (bl := []) (p := []) (k := 120) (n := 30) (d := 7) (nx2 := 111) (l := [(1, .pointer (some ⟨13, 0, none⟩)), (2, .string f), (3, .map (some 24)), (4, .pointer (some ⟨110, 0, none⟩)), (8, .int .i64 0)]) (L := ((13, 13, mkCells 13 68 2 true [.pointer none, .slice none 0 0]) :: (110, 110, mkCells 110 62 13 true (moV Y M D ho mi S W J n iy iw su mo)) :: wcBx)) (by kernel_rfl) (by kernel_rfl) (by kernel_rfl) (by kernel_rfl) (fun r hr => jC (vO (by kernel_rfl) hr) (jC (vO (by kernel_rfl) hr) (jC (map_of (by kernel_rfl) hr) (jC (vO (by kernel_rfl) hr) (jC (vO (by kernel_rfl) hr) (jC (vO (by kernel_rfl) hr) (jC (vO (by kernel_rfl) hr) (jC (vO (by kernel_rfl) hr) (jC (vO (by kernel_rfl) hr) (jC (vO (by kernel_rfl) hr) (jC (vO (by kernel_rfl) hr) (jC (vO (by kernel_rfl) hr) (jC (vO (by kernel_rfl) hr) jN))))))))))))) (by kernel_rfl) aN hq
section
variable (Y M D ho mi : Int) (S : Nat) (W J n iy iw su mo : Int) (f : ByteArray)
def fR (tot : ByteArray) : Value → Hp → Nat → Prop := fun v H nx => v = .tuple #[] ∧ H = (wcSt Y M D ho mi S W J n iy iw su mo f tot f.size).H ∧ nx = (wcSt Y M D ho mi S W J n iy iw su mo f tot f.size).nx
theorem fcall (tot : ByteArray) (hb : f.size ≤ 1000000000) (ht : tot.size ≤ 1000000000) (hw : wrL (dirWG Y M D ho mi S W J n iy iw su mo) f.data.toList = tot) (hk : wrK (dirWH Y M D ho mi S W J n iy iw su mo) f.data.toList = true) {c : Code} (hc : Tryz.f34.body = some c) (hsp : Go.Ev.spine c = (Go.Ev.spine c).take 2 ++ (.block 0 (.loop wcB) :: [])) :
  Tr (withB laW lpV) 110 66 c (entry Tryz.f34 #[.agg (moV Y M D ho mi S W J n iy iw su mo).toArray, .pointer (some ⟨13, 0, none⟩), .string f, .map (some 24)] (fsW Y M D ho mi S W J n iy iw su mo f).H 110) fun e s2 => (match e with | .exit _ => False | _ => True) ∧ ∃ q, evResults (withB laW lpV) s2.tm s2.H Tryz.f34.results.toList = some q ∧ fR Y M D ho mi S W J n iy iw su mo f tot (oneOf q) s2.H s2.nx := by
 refine Tr.of_spine c ?_
 rw [hsp]
 have h2 : (Go.Ev.spine c).take 2 = (bodyOf Tryz.f34).take 2 := by unfold bodyOf; rw [hc]
 rw [h2]
 refine fn0 Y M D ho mi S W J n iy iw su mo f ?_
 refine TrL.one ?_
 refine Tr.mono (Q := fun e st => e = .normal ∧ st = wcSt Y M D ho mi S W J n iy iw su mo f tot f.size) ?_ ?_
 ·have lp := wc_loop2 Y M D ho mi S W J n iy iw su mo (f := f) tot hb ht hw hk
  exact Tr.block lp (fun st h => ⟨rfl, h.2⟩) (fun e st h hne => absurd h.1 hne)
 ·rintro e st ⟨rfl, rfl⟩
  refine ⟨trivial, [], ?_, rfl, rfl, rfl⟩
  rw [f34_res]
  rfl
end
section
variable (Y M D ho mi : Int) (S : Nat) (W J n iy iw su mo : Int) (f : ByteArray)
theorem fsW_nx : (fsW Y M D ho mi S W J n iy iw su mo f).nx = 109 := by kernel_rfl
theorem fsW_co : constsOk (withB laW lpV) (fsW Y M D ho mi S W J n iy iw su mo f).tm f9last = true := by kernel_rfl
theorem fsW_en : evOp (withB laW lpV) (St.eval (fsW Y M D ho mi S W J n iy iw su mo f).tm) f9last (fsW Y M D ho mi S W J n iy iw su mo f).nx (fsW Y M D ho mi S W J n iy iw su mo f).H = some (.enter 34 #[.agg (moV Y M D ho mi S W J n iy iw su mo).toArray, .pointer (some ⟨13, 0, none⟩), .string f, .map (some 24)], (fsW Y M D ho mi S W J n iy iw su mo f).H) := by kernel_rfl
theorem f9last_guard : f9last.guard = none := by kernel_rfl
theorem f9last_dst : f9last.dst = some 19 := by kernel_rfl
theorem f9_call (tot : ByteArray) (hb : f.size ≤ 1000000000) (ht : tot.size ≤ 1000000000) (hw : wrL (dirWG Y M D ho mi S W J n iy iw su mo) f.data.toList = tot) (hk : wrK (dirWH Y M D ho mi S W J n iy iw su mo) f.data.toList = true) (Q : AExit → St → Prop)
  (hq : Q .normal { tm := (fsW Y M D ho mi S W J n iy iw su mo f).tm.set 19 (.tuple #[]), H := (wcSt Y M D ho mi S W J n iy iw su mo f tot f.size).H, nx := (wcSt Y M D ho mi S W J n iy iw su mo f tot f.size).nx }) :
  Tr (withB laW lpV) 12 21 (.region 5 (f9ops.push f9last) true) (st5 Y M D ho mi S W J n iy iw su mo f) Q := by
 obtain ⟨c, hc, hsp⟩ := f34_code
 have hnx := fsW_nx Y M D ho mi S W J n iy iw su mo f
 refine Tr.region_last (CxOk.withB laW lpV) (withB_intr laW_sound lpV_sound) (k := 30) (s1 := fsW Y M D ho mi S W J n iy iw su mo f) (f := 34) (fn := Tryz.f34) (c := c) (args := #[.agg (moV Y M D ho mi S W J n iy iw su mo).toArray, .pointer (some ⟨13, 0, none⟩), .string f, .map (some 24)]) (R := fR Y M D ho mi S W J n iy iw su mo f tot) (by show 12 ≤ 14; omega) (by rw [hnx]; omega) (fsW_ok Y M D ho mi S W J n iy iw su mo f) (by kernel_rfl) (by kernel_rfl) (by kernel_rfl) f9last_guard (fsW_co Y M D ho mi S W J n iy iw su mo f) (fsW_en Y M D ho mi S W J n iy iw su mo f) f34_body hc ?_ ?_ ?_
 ·rw [hnx]
  show Tr (withB laW lpV) 110 (max 4 Tryz.f34.ntmps) c _ _
  rw [f34_tmps]
  exact fcall Y M D ho mi S W J n iy iw su mo f tot hb ht hw hk hc hsp
 ·intro v
  rw [f9last_dst]
  exact ⟨_, rfl⟩
 ·rintro v tm2 H2 nx2 ⟨rfl, rfl, rfl⟩ hp
  rw [f9last_dst] at hp
  cases hp
  exact hq
end
noncomputable def strA (args : Array Value) (H : Hp) (nx : Nat) : Option (Value × Hp × Nat × Bool) :=
 match args.toList with
 | [.pointer (some ⟨b, 0, none⟩)] => match H.get b with
  | none => none
  | some ob => match Nat.beq ob.elem 68 && ob.exact && Nat.ble cx0.lo b, cellsOfObj ob, loadN H b 1 1 with
   | true, some 2, some [.slice none 0 0] => some (.string ByteArray.empty, H, nx, true)
   | true, some 2, some [.slice (some ⟨g, o, none⟩) l _] => match H.get g with
    | none => none
    | some og => match H.get og.root with
     | none => none
     | some ro => match killAll H (fun _ => false) ro.kin with
      | none => none
      | some H2 => some (.string (strAt H g o l), H2, nx, (Nat.beq og.elem 5 && Nat.ble cx0.lo g && Nat.ble 1 l && Nat.ble l 9223372036854775807) && strOk H g o l)
   | _, _, _ => none
 | _ => none
theorem strA_ok {args : Array Value} {H H' : Hp} {nx nx' : Nat} {v : Value} (h : strA args H nx = some (v, H', nx', true)) : strI cx0 68 5 args H nx = some (v, H', nx') := by
 unfold strA at h
 split at h
 ·rename_i b hx
  split at h
  ·cases h
  ·rename_i ob hob
   split at h
   ·rename_i e1 e2 e3
    simp only [Option.some.injEq, Prod.mk.injEq] at h
    obtain ⟨rfl, rfl, rfl, -⟩ := h
    unfold strI
    rw [hx]
    simp only [hob, e1, e2, e3]
   ·rename_i g o l _ e1 e2 e3
    split at h
    ·cases h
    ·rename_i og hog
     split at h
     ·cases h
     ·rename_i ro hro
      split at h
      ·cases h
      ·rename_i H2 hk
       simp only [Option.some.injEq, Prod.mk.injEq, Bool.and_eq_true] at h
       obtain ⟨rfl, rfl, rfl, hc, hs⟩ := h
       have hc2 : (Nat.beq og.elem 5 && Nat.ble cx0.lo g && Nat.ble 1 l && Nat.ble l 9223372036854775807) = true := by simpa [Bool.and_eq_true] using hc
       unfold strOk at hs
       unfold strI strAt
       rw [hx]
       simp only [hob, e1, e2, e3, hog, hc2, hro, hk]
       cases e4 : loadN H g o l with
       | none => rw [e4] at hs; cases hs
       | some vs =>
        rw [e4] at hs
        simp only at hs ⊢
        cases e5 : bytesOf vs ByteArray.empty with
        | none => rw [e5] at hs; cases hs
        | some s => simp only [hk]
   ·cases h
 ·cases h
noncomputable def cxG : Cx := { withB laW lpV with asrt := fun f => match Nat.beq f 36 with
 | true => some strA
 | false => tabA laW f }
theorem cxG_intr : IntrOk cxG where
 sound f g h := Sound.asrt ((withB_intr laW_sound lpV_sound).sound f g h)
 mono f g h := (withB_intr laW_sound lpV_sound).mono f g h
theorem cxG_ok : CxOk cxG where
 info := (CxOk.withB laW lpV).info
 body := (CxOk.withB laW lpV).body
 mixed := (CxOk.withB laW lpV).mixed
 name := (CxOk.withB laW lpV).name
 zero := (CxOk.withB laW lpV).zero
 wp := (CxOk.withB laW lpV).wp
theorem cxG_str : cxG.intr 36 = some (strI cx0 68 5) := by kernel_rfl
theorem cxG_asrt : AsrtOk cxG := fun f a args H nx v H' nx' h k => by
 cases e : Nat.beq f 36 with
 | true =>
  have hf := Nat.eq_of_beq_eq_true e
  subst hf
  have ha : a = strA := (Option.some.inj (show some strA = some a from h)).symm
  subst ha
  exact ⟨_, cxG_str, strA_ok k⟩
 | false =>
  have h' : tabA laW f = some a := by
   have : cxG.asrt f = tabA laW f := by
    show (match Nat.beq f 36 with | true => some strA | false => tabA laW f) = _
    rw [e]
   rw [← this]; exact h
  exact withB_asrt laW lpV f a args H nx v H' nx' h' k
theorem hkG : HookOk cxG hk := hk_eq (iB laW lpV) cxG.asrt ▸ hook_ok (cx := cxG) cxG_ok (fun k args v h => ext_ok (iB laW lpV) k args v h) cxG_asrt
section
variable (Y M D ho mi : Int) (S : Nat) (W J n iy iw su mo : Int) (f : ByteArray) (j : Int)
theorem f9_fin0 {R : Value → Hp → Nat → Prop} (hq : ∀ H nx, R (oneOf [.string ByteArray.empty, .int .i64 0]) H nx) : TrL cxG 12 21 ((bodyOf Tryz.f9).drop 6) { tm := (fsW Y M D ho mi S W J n iy iw su mo f).tm.set 19 (.tuple #[]), H := (wc0 Y M D ho mi S W J n iy iw su mo f j).H, nx := 111 } (fun e s2 => (match e with | .exit _ => False | _ => True) ∧ ∃ l, evResults cxG s2.tm s2.H Tryz.f9.results.toList = some l ∧ R (oneOf l) s2.H s2.nx) :=
 TrL.fin hkG cxG_ok cxG_intr (m := []) (bl := []) (p := []) (k := 120) (n := 30) (vs := [.string ByteArray.empty, .int .i64 0]) (by kernel_rfl) (by kernel_rfl) (by kernel_rfl) (by kernel_rfl) (by kernel_rfl) aN hq
theorem f9_fin1 (t : ByteArray) (h1 : ((Nat.beq 5 5 && Nat.ble cx0.lo 111 && Nat.ble 1 t.size && Nat.ble t.size 9223372036854775807) && strOk (wc1 Y M D ho mi S W J n iy iw su mo f j t).H 111 0 t.size) = true) {R : Value → Hp → Nat → Prop} (hq : ∀ H nx, R (oneOf [.string (strAt (wc1 Y M D ho mi S W J n iy iw su mo f j t).H 111 0 t.size), .int .i64 0]) H nx) : TrL cxG 12 21 ((bodyOf Tryz.f9).drop 6) { tm := (fsW Y M D ho mi S W J n iy iw su mo f).tm.set 19 (.tuple #[]), H := (wc1 Y M D ho mi S W J n iy iw su mo f j t).H, nx := 112 } (fun e s2 => (match e with | .exit _ => False | _ => True) ∧ ∃ l, evResults cxG s2.tm s2.H Tryz.f9.results.toList = some l ∧ R (oneOf l) s2.H s2.nx) :=
 TrL.fin hkG cxG_ok cxG_intr (m := [true]) (bl := [(Nat.beq 5 5 && Nat.ble cx0.lo 111 && Nat.ble 1 t.size && Nat.ble t.size 9223372036854775807) && strOk (wc1 Y M D ho mi S W J n iy iw su mo f j t).H 111 0 t.size]) (p := []) (k := 120) (n := 30) (vs := [.string (strAt (wc1 Y M D ho mi S W J n iy iw su mo f j t).H 111 0 t.size), .int .i64 0]) (by kernel_rfl) (by kernel_rfl) (by kernel_rfl) (by kernel_rfl) (by kernel_rfl) (aC h1 aN) hq
end
end Go.Proofs.YthopphfehgdocaaGreatDoor
namespace Go.Ev
open Go.RowKit
theorem Fresh.asrt {cx : Cx} {A : FuncId → Option (Array Value → Hp → Nat → Option (Value × Hp × Nat × Bool))} {E : Env} {H : Hp} {nx : Nat} (h : Fresh cx E H nx) : Fresh { cx with asrt := A } E H nx := ⟨h.env, h.heap, h.lo⟩
theorem Fresh.asrt' {cx : Cx} {A : FuncId → Option (Array Value → Hp → Nat → Option (Value × Hp × Nat × Bool))} {E : Env} {H : Hp} {nx : Nat} (h : Fresh { cx with asrt := A } E H nx) : Fresh cx E H nx := ⟨h.env, h.heap, h.lo⟩
theorem SR.asrt {cx : Cx} {A : FuncId → Option (Array Value → Hp → Nat → Option (Value × Hp × Nat × Bool))} {B : Nat} {E : Env} {nt : Nat} {s : St} {a : Act} {w : World} (h : SR cx B E nt s a w) : SR { cx with asrt := A } B E nt s a w := ⟨h.tm, h.defers, h.hr, h.fresh.asrt, h.glob, h.wp⟩
theorem SR.asrt' {cx : Cx} {A : FuncId → Option (Array Value → Hp → Nat → Option (Value × Hp × Nat × Bool))} {B : Nat} {E : Env} {nt : Nat} {s : St} {a : Act} {w : World} (h : SR { cx with asrt := A } B E nt s a w) : SR cx B E nt s a w := ⟨h.tm, h.defers, h.hr, h.fresh.asrt', h.glob, h.wp⟩
theorem Tr.asrt {cx : Cx} {A : FuncId → Option (Array Value → Hp → Nat → Option (Value × Hp × Nat × Bool))} {n0 nt : Nat} {c : Code} {s : St} {Q : AExit → St → Prop} (h : Tr cx n0 nt c s Q) : Tr { cx with asrt := A } n0 nt c s Q :=
 fun B E a w R hs hR => h B E a w R hs.asrt' fun e s' E' a' w' q h' k b => hR e s' E' a' w' q h'.asrt k b
end Go.Ev
namespace Go.Proofs.YthopphfehgdocaaGreatDoor
open Go Go.RowKit Go.Ev Go.Proofs Go.Shelf
section
variable (Y M D ho mi : Int) (S : Nat) (W J n iy iw su mo : Int) (f : ByteArray)
theorem f9_from5 (tot : ByteArray) (hb : f.size ≤ 1000000000) (ht : tot.size ≤ 1000000000) (hw : wrL (dirWG Y M D ho mi S W J n iy iw su mo) f.data.toList = tot) (hk : wrK (dirWH Y M D ho mi S W J n iy iw su mo) f.data.toList = true) :
  TrL cxG 12 21 ((bodyOf Tryz.f9).drop 5) (st5 Y M D ho mi S W J n iy iw su mo f) (fun e s2 => (match e with | .exit _ => False | _ => True) ∧ ∃ l, evResults cxG s2.tm s2.H Tryz.f9.results.toList = some l ∧ oneOf l = .tuple #[.string tot, .int .i64 0]) := by
 rw [f9_reg]
 refine Tr.asrt (cx := withB laW lpV) (f9_call Y M D ho mi S W J n iy iw su mo f tot hb ht hw hk _ ?_)
 show TrL cxG 12 21 ((bodyOf Tryz.f9).drop 6) _ _
 unfold wcSt
 by_cases hz : tot.size = 0
 ·rw [if_pos hz]
  have := ba_nil hz
  subst this
  exact f9_fin0 Y M D ho mi S W J n iy iw su mo f f.size (R := fun v _ _ => v = .tuple #[.string ByteArray.empty, .int .i64 0]) (fun H nx => rfl)
 ·rw [if_neg hz]
  obtain ⟨e1, e2⟩ := strAt_row (H := (wc1 Y M D ho mi S W J n iy iw su mo f f.size tot).H) (b := 111) (ob := mkCells 111 5 1 false (bytesV tot)) (s := tot) (by kernel_rfl) rfl
  refine f9_fin1 Y M D ho mi S W J n iy iw su mo f f.size tot ?_ (R := fun v _ _ => v = .tuple #[.string tot, .int .i64 0]) (fun H nx => by rw [e1]; rfl)
  rw [e2, Bool.and_true]
  simp only [Bool.and_eq_true]
  exact ⟨⟨⟨rfl, by kernel_rfl⟩, Nat.ble_eq_true_of_le (by omega)⟩, Nat.ble_eq_true_of_le (by omega)⟩
end
theorem f9_ahead (Y M D ho mi : Int) (S : Nat) (W J : Int) (f : ByteArray) (h1 : ((normOkF Y M D ho mi S W J) == true) = true) (h2 : ((!(norm13F Y M D ho mi S W J)) == false) = true) {Q : AExit → St → Prop} {c' : Code} {lc' : List Code} (hq : TrL cxG 12 21 (c' :: lc') (canon 5 14 [(1, .string f), (6, .pointer (some ⟨12, 0, none⟩)), (8, .pointer (some ⟨13, 0, none⟩))] [(12, 20, mkCells 12 62 13 true (moV (norm0F Y M D ho mi S W J) (norm1F Y M D ho mi S W J) (norm2F Y M D ho mi S W J) (norm3F Y M D ho mi S W J) (norm4F Y M D ho mi S W J) (norm5F Y M D ho mi S W J) (norm6F Y M D ho mi S W J) (norm7F Y M D ho mi S W J) (norm8F Y M D ho mi S W J) (norm9F Y M D ho mi S W J) (norm10F Y M D ho mi S W J) (norm11F Y M D ho mi S W J) (norm12F Y M D ho mi S W J))), (13, 25, mkCells 13 68 2 true [.pointer none, .slice none 0 0])]) Q) : TrL cxG 12 21 ((bodyOf Tryz.f9).take 5 ++ c' :: lc') ((entry Tryz.f9 #[.agg #[.int .i64 Y, .int .i64 M, .int .i64 D, .int .i64 ho, .int .i64 mi, .float .f64 S, .int .i64 W, .int .i64 J], .string f] H0 12)) Q :=
 TrL.road hkG cxG_ok cxG_intr (m := [true, true]) (bl := [((normOkF Y M D ho mi S W J) == true), ((!(norm13F Y M D ho mi S W J)) == false)]) (p := [false]) (k := 120) (n := 30) (d := 5) (nx2 := 14) (l := [(1, .string f), (6, .pointer (some ⟨12, 0, none⟩)), (8, .pointer (some ⟨13, 0, none⟩))]) (L := [(12, 20, mkCells 12 62 13 true (moV (norm0F Y M D ho mi S W J) (norm1F Y M D ho mi S W J) (norm2F Y M D ho mi S W J) (norm3F Y M D ho mi S W J) (norm4F Y M D ho mi S W J) (norm5F Y M D ho mi S W J) (norm6F Y M D ho mi S W J) (norm7F Y M D ho mi S W J) (norm8F Y M D ho mi S W J) (norm9F Y M D ho mi S W J) (norm10F Y M D ho mi S W J) (norm11F Y M D ho mi S W J) (norm12F Y M D ho mi S W J))), (13, 25, mkCells 13 68 2 true [.pointer none, .slice none 0 0])]) (by kernel_rfl) (by kernel_rfl) (by kernel_rfl) (by kernel_rfl) (fun r hr => jC (vO (by kernel_rfl) hr) (jC (vO (by kernel_rfl) hr) jN)) (by kernel_rfl) (aC h1 (aC h2 aN)) hq
section
variable (Y M D ho mi : Int) (S : Nat) (W J : Int) (f : ByteArray)
theorem f9_ok (h1 : normOkF Y M D ho mi S W J = true) (h2 : norm13F Y M D ho mi S W J = true) (tot : ByteArray) (hb : f.size ≤ 1000000000) (ht : tot.size ≤ 1000000000) (hw : wrL (dirWG (norm0F Y M D ho mi S W J) (norm1F Y M D ho mi S W J) (norm2F Y M D ho mi S W J) (norm3F Y M D ho mi S W J) (norm4F Y M D ho mi S W J) (norm5F Y M D ho mi S W J) (norm6F Y M D ho mi S W J) (norm7F Y M D ho mi S W J) (norm8F Y M D ho mi S W J) (norm9F Y M D ho mi S W J) (norm10F Y M D ho mi S W J) (norm11F Y M D ho mi S W J) (norm12F Y M D ho mi S W J)) f.data.toList = tot) (hk : wrK (dirWH (norm0F Y M D ho mi S W J) (norm1F Y M D ho mi S W J) (norm2F Y M D ho mi S W J) (norm3F Y M D ho mi S W J) (norm4F Y M D ho mi S W J) (norm5F Y M D ho mi S W J) (norm6F Y M D ho mi S W J) (norm7F Y M D ho mi S W J) (norm8F Y M D ho mi S W J) (norm9F Y M D ho mi S W J) (norm10F Y M D ho mi S W J) (norm11F Y M D ho mi S W J) (norm12F Y M D ho mi S W J)) f.data.toList = true) :
  TrL cxG 12 21 (bodyOf Tryz.f9) (entry Tryz.f9 #[.agg #[.int .i64 Y, .int .i64 M, .int .i64 D, .int .i64 ho, .int .i64 mi, .float .f64 S, .int .i64 W, .int .i64 J], .string f] H0 12) (fun e s2 => (match e with | .exit _ => False | _ => True) ∧ ∃ l, evResults cxG s2.tm s2.H Tryz.f9.results.toList = some l ∧ oneOf l = .tuple #[.string tot, .int .i64 0]) := by
 have e : bodyOf Tryz.f9 = (bodyOf Tryz.f9).take 5 ++ (bodyOf Tryz.f9).drop 5 := (List.take_append_drop 5 _).symm
 have k := f9_from5 (norm0F Y M D ho mi S W J) (norm1F Y M D ho mi S W J) (norm2F Y M D ho mi S W J) (norm3F Y M D ho mi S W J) (norm4F Y M D ho mi S W J) (norm5F Y M D ho mi S W J) (norm6F Y M D ho mi S W J) (norm7F Y M D ho mi S W J) (norm8F Y M D ho mi S W J) (norm9F Y M D ho mi S W J) (norm10F Y M D ho mi S W J) (norm11F Y M D ho mi S W J) (norm12F Y M D ho mi S W J) f tot hb ht hw hk
 rw [e, f9_reg]
 rw [f9_reg] at k
 exact f9_ahead Y M D ho mi S W J f (by rw [h1]; rfl) (by rw [h2]; rfl) k
end
theorem f9_no (Y M D ho mi : Int) (S : Nat) (W J : Int) (f : ByteArray) (h1 : ((normOkF Y M D ho mi S W J) == true) = true) (h2 : ((!(norm13F Y M D ho mi S W J)) == true) = true) :
  TrL cxG 12 21 (bodyOf Tryz.f9) (entry Tryz.f9 #[.agg #[.int .i64 Y, .int .i64 M, .int .i64 D, .int .i64 ho, .int .i64 mi, .float .f64 S, .int .i64 W, .int .i64 J], .string f] H0 12) (fun e s2 => (match e with | .exit _ => False | _ => True) ∧ ∃ l, evResults cxG s2.tm s2.H Tryz.f9.results.toList = some l ∧ oneOf l = .tuple #[.string ⟨#[]⟩, .int .i64 110]) :=
 TrL.fin hkG cxG_ok cxG_intr (m := [true, true]) (bl := [((normOkF Y M D ho mi S W J) == true), ((!(norm13F Y M D ho mi S W J)) == true)]) (p := [true]) (k := 120) (n := 30) (vs := [.string ⟨#[]⟩, .int .i64 110]) (R := fun v _ _ => v = .tuple #[.string ⟨#[]⟩, .int .i64 110]) (by kernel_rfl) (by kernel_rfl) (by kernel_rfl) (by kernel_rfl) (by kernel_rfl) (aC h1 (aC h2 aN)) (fun H nx => rfl)
theorem startG {w : World} {a : Addr} (k : Known w a) : Go.Ev.Start cxG H0 (E0 a) w :=
 have s := start k (tabI (laW.map AFn.pfn ++ lpV))
 ⟨s.dat, s.low, s.globs⟩
theorem psound_trG {e : PFn}
  (hg : ∀ args v, e.p args = some v → args.toList.all (closed 60) = true ∧ shut v = true ∧ ∃ fn c, cx0.body e.f = some fn ∧ fn.body = some c ∧
   Tr cxG 12 (max args.size fn.ntmps) c (entry fn args H0 12) fun x s => (match x with | .exit _ => False | _ => True) ∧ ∃ l, evResults cxG s.tm s.H fn.results.toList = some l ∧ oneOf l = v) : PSound cx0 e := fun i =>
 pureI_sound fun args args' v B w E hW hB har hp' => by
  obtain ⟨hcl, hv, fn, c, hb, hbd, h⟩ := hg args v hp'
  obtain ⟨h11, a, hab, hk⟩ := hW
  have he : args' = args := by
   refine Array.ext har.1.symm fun k h1 h2 => ?_
   have p : args[k]? = some args[k] := Array.getElem?_eq_getElem h2
   have q : args'[k]? = some args'[k] := Array.getElem?_eq_getElem h1
   exact (har.2 k _ _ p q).shut_eq 60 (closed_all hcl k _ p)
  subst he
  have s := startG hk
  have hW2 : cxG.Wp w.heap.size w := ⟨by omega, a, by omega, hk⟩
  refine (Tr.calls (cx := cxG) (R := fun u _ _ => u = v) cxG_ok hb hbd hW2 s.hr s.fresh s.globs (AR.closed _ hcl) h).mono ?_
  rintro e w' ⟨u, v', H', nx', E', rfl, rfl, vr, _, _, _, hbl⟩
  have := vr.shut_eq 60 (by simpa [shut] using hv)
  subst this
  exact ⟨rfl, hv, hbl⟩
def fmtTF (Y M D ho mi : Int) (S : Nat) (W J : Int) (f : ByteArray) : ByteArray := bif norm13F Y M D ho mi S W J then wrL (dirWG (norm0F Y M D ho mi S W J) (norm1F Y M D ho mi S W J) (norm2F Y M D ho mi S W J) (norm3F Y M D ho mi S W J) (norm4F Y M D ho mi S W J) (norm5F Y M D ho mi S W J) (norm6F Y M D ho mi S W J) (norm7F Y M D ho mi S W J) (norm8F Y M D ho mi S W J) (norm9F Y M D ho mi S W J) (norm10F Y M D ho mi S W J) (norm11F Y M D ho mi S W J) (norm12F Y M D ho mi S W J)) f.data.toList else ⟨#[]⟩
def fmtEF (Y M D ho mi : Int) (S : Nat) (W J : Int) (f : ByteArray) : Int := bif norm13F Y M D ho mi S W J then 0 else 110
def fmtOkF (Y M D ho mi : Int) (S : Nat) (W J : Int) (f : ByteArray) : Bool := normOkF Y M D ho mi S W J && (bif norm13F Y M D ho mi S W J then wrK (dirWH (norm0F Y M D ho mi S W J) (norm1F Y M D ho mi S W J) (norm2F Y M D ho mi S W J) (norm3F Y M D ho mi S W J) (norm4F Y M D ho mi S W J) (norm5F Y M D ho mi S W J) (norm6F Y M D ho mi S W J) (norm7F Y M D ho mi S W J) (norm8F Y M D ho mi S W J) (norm9F Y M D ho mi S W J) (norm10F Y M D ho mi S W J) (norm11F Y M D ho mi S W J) (norm12F Y M D ho mi S W J)) f.data.toList && (decide (f.size ≤ 1000000000) && decide ((wrL (dirWG (norm0F Y M D ho mi S W J) (norm1F Y M D ho mi S W J) (norm2F Y M D ho mi S W J) (norm3F Y M D ho mi S W J) (norm4F Y M D ho mi S W J) (norm5F Y M D ho mi S W J) (norm6F Y M D ho mi S W J) (norm7F Y M D ho mi S W J) (norm8F Y M D ho mi S W J) (norm9F Y M D ho mi S W J) (norm10F Y M D ho mi S W J) (norm11F Y M D ho mi S W J) (norm12F Y M D ho mi S W J)) f.data.toList).size ≤ 1000000000)) else true)
def fmtV (args : Array Value) : Option Value := match args.toList with
 | [.agg a, .string f] => match a.toList with
  | [.int .i64 Y, .int .i64 M, .int .i64 D, .int .i64 ho, .int .i64 mi, .float .f64 S, .int .i64 W, .int .i64 J] => some (.tuple #[.string (fmtTF Y M D ho mi S W J f), .int .i64 (fmtEF Y M D ho mi S W J f)])
  | _ => none
 | _ => none
def fmtKK (args : Array Value) : Bool := match args.toList with
 | [.agg a, .string f] => match a.toList with
  | [.int .i64 Y, .int .i64 M, .int .i64 D, .int .i64 ho, .int .i64 mi, .float .f64 S, .int .i64 W, .int .i64 J] => fmtOkF Y M D ho mi S W J f == true
  | _ => false
 | _ => false
def fmtA : AFn := { f := 9, val := fmtV, ok := fmtKK }
theorem f9_body : ∃ c, cx0.body 9 = some Tryz.f9 ∧ Tryz.f9.body = some c := ⟨_, by kernel_rfl, rfl⟩
theorem f9_tmps : max 2 Tryz.f9.ntmps = 21 := by kernel_rfl
theorem fmt_sound : PSound cx0 fmtA.pfn := psound_trG fun args v h => by
 obtain ⟨hv, hk⟩ := afn_some h
 replace hv : fmtV args = some v := hv
 replace hk : fmtKK args = true := hk
 unfold fmtV at hv
 split at hv
 ·rename_i a f hx
  have ha := args_list hx
  subst ha
  split at hv
  ·rename_i Y M D ho mi S W J hx2
   have ha2 := args_list hx2
   subst ha2
   cases hv
   have hok : fmtOkF Y M D ho mi S W J f = true := by simpa [fmtKK] using hk
   obtain ⟨c, hb, hbd⟩ := f9_body
   refine ⟨rfl, rfl, Tryz.f9, c, hb, hbd, ?_⟩
   show Tr cxG 12 (max 2 Tryz.f9.ntmps) c _ _
   rw [f9_tmps]
   refine Tr.of_spine c ?_
   have hs : Go.Ev.spine c = bodyOf Tryz.f9 := by unfold bodyOf; rw [hbd]
   rw [hs]
   unfold fmtOkF at hok
   simp only [Bool.and_eq_true] at hok
   obtain ⟨h1, h2⟩ := hok
   unfold fmtTF fmtEF
   cases hn : norm13F Y M D ho mi S W J with
   | true =>
    rw [hn] at h2
    simp only [cond_true, Bool.and_eq_true, decide_eq_true_eq] at h2 ⊢
    exact f9_ok Y M D ho mi S W J f h1 hn _ h2.2.1 h2.2.2 rfl h2.1
   | false =>
    simp only [cond_false]
    exact f9_no Y M D ho mi S W J f (by rw [h1]; rfl) (by rw [hn]; rfl)
  ·cases hv
 ·cases hv
end Go.Proofs.YthopphfehgdocaaGreatDoor
