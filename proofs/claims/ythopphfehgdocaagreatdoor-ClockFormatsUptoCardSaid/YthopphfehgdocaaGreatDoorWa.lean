import Derived.Test.YthopphfehgdocaaGreatDoorWx
import Derived.Test.YthopphfehgdocaaGreatDoorWr
import Derived.Test.YthopphfehgdocaaGreatDoorRefD
import Derived.Test.YthopphfehgdocaaGreatDoorRefE
set_option linter.unusedSimpArgs false
set_option linter.unusedVariables false
namespace Go.Proofs.YthopphfehgdocaaGreatDoor
open Go Go.RowKit Go.Ev Go.Proofs Go.Shelf
def moV (Y M D ho mi : Int) (S : Nat) (W J n iy iw su mo : Int) : List Value := [.int .i64 Y, .int .i64 M, .int .i64 D, .int .i64 ho, .int .i64 mi, .float .f64 S, .int .i64 W, .int .i64 J, .int .i64 n, .int .i64 iy, .int .i64 iw, .int .i64 su, .int .i64 mo]
end Go.Proofs.YthopphfehgdocaaGreatDoor
namespace Go.Ev
theorem orc_draw {cx : Cx} {hk : Hook} (hh : HookOk cx hk) {k nt : Nat} {ops : Array Oper} {s d : St} {p m l : List Bool}
  (h1 : (evDrawO cx hk (evFuncO cx hk k) ops nt s p).map (fun r => sel m r.2.2) = some l)
  (h2 : (evDrawO cx hk (evFuncO cx hk k) ops nt s p).map (fun r => rest m r.2.2) = some true)
  (he : (evDrawO cx hk (evFuncO cx hk k) ops nt s p).map (fun r => lefts r.2.2) = (evDrawO cx hk (evFuncO cx hk k) ops nt s p).map (fun r => rights r.2.2)) (hl : ∀ b ∈ l, b = true) :
  evDraw cx (evFunc cx k) ops nt s = some (match evDrawO cx hk (evFuncO cx hk k) ops nt s p with | some r => r.1 | none => d) := by
 cases hq : evDrawO cx hk (evFuncO cx hk k) ops nt s p with
 | none => rw [hq] at h1; cases h1
 | some r =>
  obtain ⟨s1, p1, rs⟩ := r
  rw [hq] at h1 h2 he
  simp only [Option.map_some, Option.some.injEq] at h1 h2 he
  subst h1
  exact evDrawO_ok hh (evFuncO_ok hh k) hq (so_of (bools_of _ _ hl h2) he)
end Go.Ev
namespace Go.Proofs.YthopphfehgdocaaGreatDoor
open Go Go.RowKit Go.Ev Go.Proofs Go.Shelf
noncomputable def f9ops : Array Oper := match (bodyOf Tryz.f9).drop 5 with
 | Go.Code.region _ o _ :: _ => (o.toList.take 3).toArray
 | _ => #[]
noncomputable def f9last : Oper := match (bodyOf Tryz.f9).drop 5 with
 | Go.Code.region _ o _ :: _ => o.toList.getLastD default
 | _ => default
def st5 (Y M D ho mi : Int) (S : Nat) (W J n iy iw su mo : Int) (f : ByteArray) : St := canon 5 14 [(1, .string f), (6, .pointer (some ⟨12, 0, none⟩)), (8, .pointer (some ⟨13, 0, none⟩))] [(12, 20, mkCells 12 62 13 true (moV Y M D ho mi S W J n iy iw su mo)), (13, 25, mkCells 13 68 2 true [.pointer none, .slice none 0 0])]
theorem f9_reg : (bodyOf Tryz.f9).drop 5 = Go.Code.region 5 (f9ops.push f9last) true :: (bodyOf Tryz.f9).drop 6 := by kernel_rfl
section
variable (Y M D ho mi : Int) (S : Nat) (W J n iy iw su mo : Int) (f : ByteArray)
end
end Go.Proofs.YthopphfehgdocaaGreatDoor
namespace Go.Proofs.YthopphfehgdocaaGreatDoor
open Go Go.RowKit Go.Ev Go.Proofs Go.Shelf
def wmEs : List MapEntry := [{ key := .int .u8 97, val := .func (.func 89) #[] #[], born := 0 }, { key := .int .u8 65, val := .func (.func 91) #[] #[], born := 1 }, { key := .int .u8 98, val := .func (.func 86) #[] #[], born := 2 }, { key := .int .u8 104, val := .func (.func 86) #[] #[], born := 3 }, { key := .int .u8 66, val := .func (.func 92) #[] #[], born := 4 }, { key := .int .u8 89, val := .func (.func 93) #[] #[], born := 5 }, { key := .int .u8 67, val := .func (.func 95) #[] #[.pointer (some ⟨22, 0, none⟩)], born := 6 }, { key := .int .u8 121, val := .func (.func 97) #[] #[.pointer (some ⟨22, 0, none⟩)], born := 7 }, { key := .int .u8 109, val := .func (.func 98) #[] #[], born := 8 }, { key := .int .u8 100, val := .func (.func 99) #[] #[], born := 9 }, { key := .int .u8 72, val := .func (.func 100) #[] #[], born := 10 }, { key := .int .u8 77, val := .func (.func 101) #[] #[], born := 11 }, { key := .int .u8 83, val := .func (.func 102) #[] #[], born := 12 }, { key := .int .u8 73, val := .func (.func 103) #[] #[], born := 13 }, { key := .int .u8 106, val := .func (.func 105) #[] #[], born := 14 }, { key := .int .u8 101, val := .func (.func 107) #[] #[], born := 15 }, { key := .int .u8 107, val := .func (.func 108) #[] #[], born := 16 }, { key := .int .u8 108, val := .func (.func 109) #[] #[], born := 17 }, { key := .int .u8 112, val := .func (.func 83) #[] #[.pointer (some ⟨49, 0, none⟩), .pointer (some ⟨50, 0, none⟩)], born := 18 }, { key := .int .u8 80, val := .func (.func 83) #[] #[.pointer (some ⟨57, 0, none⟩), .pointer (some ⟨58, 0, none⟩)], born := 19 }, { key := .int .u8 117, val := .func (.func 110) #[] #[], born := 20 }, { key := .int .u8 119, val := .func (.func 111) #[] #[], born := 21 }, { key := .int .u8 85, val := .func (.func 112) #[] #[], born := 22 }, { key := .int .u8 87, val := .func (.func 113) #[] #[], born := 23 }, { key := .int .u8 86, val := .func (.func 114) #[] #[], born := 24 }, { key := .int .u8 71, val := .func (.func 115) #[] #[], born := 25 }, { key := .int .u8 103, val := .func (.func 116) #[] #[.pointer (some ⟨22, 0, none⟩)], born := 26 }, { key := .int .u8 115, val := .func (.func 117) #[] #[], born := 27 }, { key := .int .u8 110, val := .func (.func 85) #[] #[.pointer (some ⟨74, 0, none⟩)], born := 28 }, { key := .int .u8 116, val := .func (.func 85) #[] #[.pointer (some ⟨81, 0, none⟩)], born := 29 }, { key := .int .u8 37, val := .func (.func 85) #[] #[.pointer (some ⟨88, 0, none⟩)], born := 30 }, { key := .int .u8 122, val := .func (.func 85) #[] #[.pointer (some ⟨95, 0, none⟩)], born := 31 }, { key := .int .u8 90, val := .func (.func 85) #[] #[.pointer (some ⟨102, 0, none⟩)], born := 32 }]
def wmObj : AObj := { dat := some (.map wmEs 33), elem := 0, esz := 0, exact := true, root := 24, kin := [24] }
def wcBx : List (Nat × Nat × AObj) := [(24, 24, wmObj), (22, 22, mkCells 22 131 1 true [.func (.func 88) #[] #[]]), (49, 49, mkCells 49 9 1 true [.string ⟨#[65, 77]⟩]), (50, 50, mkCells 50 9 1 true [.string ⟨#[80, 77]⟩]), (57, 57, mkCells 57 9 1 true [.string ⟨#[97, 109]⟩]), (58, 58, mkCells 58 9 1 true [.string ⟨#[112, 109]⟩]), (74, 74, mkCells 74 9 1 true [.string ⟨#[10]⟩]), (81, 81, mkCells 81 9 1 true [.string ⟨#[9]⟩]), (88, 88, mkCells 88 9 1 true [.string ⟨#[37]⟩]), (95, 95, mkCells 95 9 1 true [.string ⟨#[43, 48, 48, 48, 48]⟩]), (102, 102, mkCells 102 9 1 true [.string ⟨#[85, 84, 67]⟩])]
def wc0 (Y M D ho mi : Int) (S : Nat) (W J n iy iw su mo : Int) (f : ByteArray) (i : Int) : St := canon 7 111 [(1, .pointer (some ⟨13, 0, none⟩)), (2, .string f), (3, .map (some 24)), (4, .pointer (some ⟨110, 0, none⟩)), (8, .int .i64 i)] ((13, 13, mkCells 13 68 2 true [.pointer none, .slice none 0 0]) :: (110, 110, mkCells 110 62 13 true (moV Y M D ho mi S W J n iy iw su mo)) :: wcBx)
def wc1 (Y M D ho mi : Int) (S : Nat) (W J n iy iw su mo : Int) (f : ByteArray) (i : Int) (s : ByteArray) : St := canon 7 112 [(1, .pointer (some ⟨13, 0, none⟩)), (2, .string f), (3, .map (some 24)), (4, .pointer (some ⟨110, 0, none⟩)), (8, .int .i64 i)] ((13, 13, mkCells 13 68 2 true [.pointer (some ⟨13, 0, none⟩), .slice (some ⟨111, 0, none⟩) s.size s.size]) :: (111, 111, mkCells 111 5 1 false (bytesV s)) :: (110, 110, mkCells 110 62 13 true (moV Y M D ho mi S W J n iy iw su mo)) :: wcBx)
noncomputable def wcB : Code := loopB Tryz.f34 0
end Go.Proofs.YthopphfehgdocaaGreatDoor
namespace Go.Ev
theorem tabI_or {i : Intr} {t : Intr} {f : FuncId} {g} (h : (match t f with | some g => some g | none => i f) = some g) : t f = some g ∨ i f = some g := by
 split at h
 ·rename_i g' hg; cases h; exact .inl hg
 ·exact .inr h
end Go.Ev
namespace Go.Proofs.YthopphfehgdocaaGreatDoor
open Go Go.RowKit Go.Ev Go.Proofs Go.Shelf
noncomputable def iB (la : List AFn) (lp : List PFn) : Intr := fun f => match tabI (la.map AFn.pfn ++ lp) f with
 | some g => some g
 | none => bIntr f
noncomputable def withB (la : List AFn) (lp : List PFn) : Cx := { cx0 with intr := iB la lp, asrt := tabA la }
theorem withB_asrt (la : List AFn) (lp : List PFn) : AsrtOk (withB la lp) := fun f a args H nx v H' nx' h k => by
 obtain ⟨g, h1, h2⟩ := tabA_ok lp la (show tabA la f = some a from h) k
 refine ⟨g, ?_, h2⟩
 show iB la lp f = some g
 unfold iB
 rw [h1]
theorem withB_intr {la : List AFn} {lp : List PFn} (ha : ∀ e ∈ la, PSound cx0 e.pfn) (hp : ∀ e ∈ lp, PSound cx0 e) : IntrOk (withB la lp) where
 sound f g hg := by
  rcases tabI_or (show iB la lp f = some g from hg) with hg | hg
  ·obtain ⟨e, h1, rfl, rfl⟩ := tabI_some _ hg
   refine Sound.asrt (cx := cx0) ?_
   rcases List.mem_append.1 h1 with h1 | h1
   ·obtain ⟨e', h2, rfl⟩ := List.mem_map.1 h1
    exact ha e' h2 _
   ·exact hp e h1 _
  ·refine Sound.asrt (cx := cx0) ?_
   rcases bIntr_some hg with ⟨rfl, rfl⟩ | ⟨rfl, rfl⟩
   ·exact ccI_sound (ρ := bl_ren) cx0 _ bl_n240 bl_extra.toX72
   ·exact strI_sound (ρ := bl_ren) cx0 _ bl_n169 bl_extra
 mono f g hg := by
  rcases tabI_or (show iB la lp f = some g from hg) with hg | hg
  ·obtain ⟨e, h1, rfl, rfl⟩ := tabI_some _ hg
   exact pureI_mono _ _ _
  ·rcases bIntr_some hg with ⟨rfl, rfl⟩ | ⟨rfl, rfl⟩
   ·exact ccI_mono _ _ _
   ·exact strI_mono _ _ _ _
theorem CxOk.withB (la : List AFn) (lp : List PFn) : CxOk (withB la lp) where
 info := (cx_ok (iB la lp)).info
 body := (cx_ok (iB la lp)).body
 mixed := (cx_ok (iB la lp)).mixed
 name := (cx_ok (iB la lp)).name
 zero := (cx_ok (iB la lp)).zero
 wp := (cx_ok (iB la lp)).wp
theorem ext_okB (la : List AFn) (lp : List PFn) : ExtOk (withB la lp) ext := fun k args v h => ext_ok (iB la lp) k args v h
theorem hkB (la : List AFn) (lp : List PFn) : HookOk (withB la lp) hk := hk_eq (iB la lp) (tabA la) ▸ hook_ok (cx := withB la lp) (CxOk.withB la lp) (ext_okB la lp) (withB_asrt la lp)
end Go.Proofs.YthopphfehgdocaaGreatDoor
namespace Go.Proofs.YthopphfehgdocaaGreatDoor
open Go Go.RowKit Go.Ev Go.Proofs Go.Shelf
def laW : List AFn := [normA, dYA, dMA, deA, dwA, dGA, dmA, dSA, dkA, dUA, dsA, ddA, dIA, dlA, dWA, dcenA, dHA, djA, duA, dVA, daA, dAA, dmonA, dBA] ++ laV
theorem asound_append {a b : List AFn} (ha : ∀ e ∈ a, PSound cx0 e.pfn) (hb : ∀ e ∈ b, PSound cx0 e.pfn) : ∀ e ∈ a ++ b, PSound cx0 e.pfn := fun e h => by
 rcases List.mem_append.1 h with h | h
 ·exact ha e h
 ·exact hb e h
theorem laW_sound : ∀ e ∈ laW, PSound cx0 e.pfn := asound_append (asound_cons norm_sound (asound_cons dY_sound (asound_cons dM_sound (asound_cons de_sound (asound_cons dw_sound (asound_cons dG_sound (asound_cons dm_sound (asound_cons dS_sound (asound_cons dk_sound (asound_cons dU_sound (asound_cons ds_sound (asound_cons dd_sound (asound_cons dI_sound (asound_cons dl_sound (asound_cons dW_sound (asound_cons dcen_sound (asound_cons dH_sound (asound_cons dj_sound (asound_cons du_sound (asound_cons dV_sound (asound_cons da_sound (asound_cons dA_sound (asound_cons dmon_sound (asound_cons dB_sound (asound_nil))))))))))))))))))))))))) laV_sound
theorem map_of {o : Option (AExit × St × List Bool × List RecO)} {ro : AExit × St × List Bool × List RecO} {r' : Nat → Nat} {b1 id clock elem esz : Nat} {exact : Bool} {es : List MapEntry} (h : o.map (fun r => mapView r.2.1.H b1) = some (some (elem, esz, exact, es.map (fun e => { key := rn r' 60 e.key, val := rn r' 60 e.val, born := e.born }), clock))) (hr : o = some ro) :
  ObjOk r' ro.2.1.H b1 { dat := some (.map es clock), elem, esz, exact, root := id, kin := [id] } := ObjOk.mapView (of_road (f := fun r => mapView r.2.1.H b1) h hr)
noncomputable def wcInC : Code := match (Go.Ev.spine wcB).drop 2 with
 | Go.Code.block _ c :: _ => c
 | _ => .skip
noncomputable def wcIn : List Code := Go.Ev.spine wcInC
noncomputable def wcR : Code := unspine (wcIn.drop 3)
theorem wc_spine : Go.Ev.spine wcB = (Go.Ev.spine wcB).take 2 ++ (Code.block 1 wcInC :: (Go.Ev.spine wcB).drop 3) := by kernel_rfl
def wd0 (Y M D ho mi : Int) (S : Nat) (W J n iy iw su mo : Int) (f : ByteArray) (i : Int) (c : Int) : St := canon 7 111 [(1, .pointer (some ⟨13, 0, none⟩)), (2, .string f), (3, .map (some 24)), (4, .pointer (some ⟨110, 0, none⟩)), (8, .int .i64 i), (9, .int .u8 c)] ((13, 13, mkCells 13 68 2 true [.pointer none, .slice none 0 0]) :: (110, 110, mkCells 110 62 13 true (moV Y M D ho mi S W J n iy iw su mo)) :: wcBx)
def wd1 (Y M D ho mi : Int) (S : Nat) (W J n iy iw su mo : Int) (f : ByteArray) (i : Int) (c : Int) (s : ByteArray) : St := canon 7 112 [(1, .pointer (some ⟨13, 0, none⟩)), (2, .string f), (3, .map (some 24)), (4, .pointer (some ⟨110, 0, none⟩)), (8, .int .i64 i), (9, .int .u8 c)] ((13, 13, mkCells 13 68 2 true [.pointer (some ⟨13, 0, none⟩), .slice (some ⟨111, 0, none⟩) s.size s.size]) :: (111, 111, mkCells 111 5 1 false (bytesV s)) :: (110, 110, mkCells 110 62 13 true (moV Y M D ho mi S W J n iy iw su mo)) :: wcBx)
def wcHp (s : ByteArray) : Hp := hpOf [(111, 111, mkCells 111 5 1 false (bytesV s))]
theorem wj_good {a c : Sp} {r : List Sp} (h : ∀ x ∈ r, x.good) (ha : a.good) (hc : c.good) : ∀ x ∈ a :: c :: r, x.good := fun x hx => by
 rcases List.mem_cons.1 hx with rfl | hx
 ·exact ha
 rcases List.mem_cons.1 hx with rfl | hx
 ·exact hc
 exact h x hx
theorem wj_good1 {a : Sp} {r : List Sp} (h : ∀ x ∈ r, x.good) (ha : a.good) : ∀ x ∈ a :: r, x.good := fun x hx => by
 rcases List.mem_cons.1 hx with rfl | hx
 ·exact ha
 exact h x hx
def wcBs : List Sp := [.map 24 24 wmEs 33, .cells 22 22 131 1 true [.func (.func 88) #[] #[]], .cells 49 49 9 1 true [.string ⟨#[65, 77]⟩], .cells 50 50 9 1 true [.string ⟨#[80, 77]⟩], .cells 57 57 9 1 true [.string ⟨#[97, 109]⟩], .cells 58 58 9 1 true [.string ⟨#[112, 109]⟩], .cells 74 74 9 1 true [.string ⟨#[10]⟩], .cells 81 81 9 1 true [.string ⟨#[9]⟩], .cells 88 88 9 1 true [.string ⟨#[37]⟩], .cells 95 95 9 1 true [.string ⟨#[43, 48, 48, 48, 48]⟩], .cells 102 102 9 1 true [.string ⟨#[85, 84, 67]⟩]]
theorem wcBs_good : ∀ x ∈ wcBs, x.good := fun x h => by
 simp only [wcBs, List.mem_cons, List.not_mem_nil, or_false] at h
 rcases h with rfl | rfl | rfl | rfl | rfl | rfl | rfl | rfl | rfl | rfl | rfl <;> trivial
theorem bxs {o : Option (AExit × St × List Bool × List RecO)} {ro : AExit × St × List Bool × List RecO} {r : Nat → Nat} (h : o.map (fun x => wcBs.map (fun y => y.view x.2.1.H)) = some (wcBs.map (fun y => y.want r))) (hr : o = some ro) : ∀ y ∈ wcBx, ObjOk r ro.2.1.H y.2.1 y.2.2 :=
 objs_of (of_road (f := fun x => wcBs.map (fun y => y.view x.2.1.H)) h hr) hr wcBs_good
def wT (f : ByteArray) (i : Int) : List (Nat × Value) := [(1, .pointer (some ⟨13, 0, none⟩)), (2, .string f), (3, .map (some 24)), (4, .pointer (some ⟨110, 0, none⟩)), (8, .int .i64 i)]
def wT9 (f : ByteArray) (i c : Int) : List (Nat × Value) := [(1, .pointer (some ⟨13, 0, none⟩)), (2, .string f), (3, .map (some 24)), (4, .pointer (some ⟨110, 0, none⟩)), (8, .int .i64 i), (9, .int .u8 c)]
def wN : Nat × Nat × AObj := (13, 13, mkCells 13 68 2 true [.pointer none, .slice none 0 0])
def wB (k : Nat) : Nat × Nat × AObj := (13, 13, mkCells 13 68 2 true [.pointer (some ⟨13, 0, none⟩), .slice (some ⟨111, 0, none⟩) k k])
def wBx (Y M D ho mi : Int) (S : Nat) (W J n iy iw su mo : Int) : List (Nat × Nat × AObj) := (110, 110, mkCells 110 62 13 true (moV Y M D ho mi S W J n iy iw su mo)) :: wcBx
theorem rdW {k nt n n0 d nx2 : Nat} {c : Code} {s : St} {p m bl : List Bool} {e : AExit} {l : List (Nat × Value)} {L : List (Nat × Nat × AObj)} {Q : AExit → St → Prop}
  (h1 : (evCodeO (withB laW lpV) hk (evFuncO (withB laW lpV) hk k) nt n c s p).map (fun r => sel m r.2.2.2) = some bl)
  (h2 : (evCodeO (withB laW lpV) hk (evFuncO (withB laW lpV) hk k) nt n c s p).map (fun r => (r.1, rest m r.2.2.2, renChk (withB laW lpV).lo n0 nt d nx2 r.2.1 l L && Nat.ble r.2.1.nx big)) = some (e, true, true))
  (he : (evCodeO (withB laW lpV) hk (evFuncO (withB laW lpV) hk k) nt n c s p).map (fun r => lefts r.2.2.2) = (evCodeO (withB laW lpV) hk (evFuncO (withB laW lpV) hk k) nt n c s p).map (fun r => rights r.2.2.2))
  (hv : (evCodeO (withB laW lpV) hk (evFuncO (withB laW lpV) hk k) nt n c s p).map (fun r => l.map fun q => St.eval r.2.1.tm (.tmp q.1)) = some (l.map fun q => rn (rOf n0 L big) 60 q.2))
  (ho : ∀ r, evCodeO (withB laW lpV) hk (evFuncO (withB laW lpV) hk k) nt n c s p = some r → ∀ x ∈ L, ObjOk (rOf n0 L big) r.2.1.H x.2.1 x.2.2)
  (hn : (Nat.ble n0 s.nx && (Nat.ble (withB laW lpV).lo n0 && Nat.ble (withB laW lpV).ng n0)) = true) (hl : ∀ b ∈ bl, b = true) (hq : Q e (canon d nx2 l L)) : Tr (withB laW lpV) n0 nt c s Q :=
 Tr.road (hkB laW lpV) (CxOk.withB laW lpV) (withB_intr laW_sound lpV_sound) h1 h2 he hv ho hn hl hq
theorem rlW {k nt n n0 d nx2 : Nat} {lc lc' : List Code} {c' : Code} {s : St} {p m bl : List Bool} {l : List (Nat × Value)} {L : List (Nat × Nat × AObj)} {Q : AExit → St → Prop}
  (h1 : (evCodeO (withB laW lpV) hk (evFuncO (withB laW lpV) hk k) nt n (unspine lc) s p).map (fun r => sel m r.2.2.2) = some bl)
  (h2 : (evCodeO (withB laW lpV) hk (evFuncO (withB laW lpV) hk k) nt n (unspine lc) s p).map (fun r => (r.1, rest m r.2.2.2, renChk (withB laW lpV).lo n0 nt d nx2 r.2.1 l L && Nat.ble r.2.1.nx big)) = some (.normal, true, true))
  (he : (evCodeO (withB laW lpV) hk (evFuncO (withB laW lpV) hk k) nt n (unspine lc) s p).map (fun r => lefts r.2.2.2) = (evCodeO (withB laW lpV) hk (evFuncO (withB laW lpV) hk k) nt n (unspine lc) s p).map (fun r => rights r.2.2.2))
  (hv : (evCodeO (withB laW lpV) hk (evFuncO (withB laW lpV) hk k) nt n (unspine lc) s p).map (fun r => l.map fun q => St.eval r.2.1.tm (.tmp q.1)) = some (l.map fun q => rn (rOf n0 L big) 60 q.2))
  (ho : ∀ r, evCodeO (withB laW lpV) hk (evFuncO (withB laW lpV) hk k) nt n (unspine lc) s p = some r → ∀ x ∈ L, ObjOk (rOf n0 L big) r.2.1.H x.2.1 x.2.2)
  (hn : (Nat.ble n0 s.nx && (Nat.ble (withB laW lpV).lo n0 && Nat.ble (withB laW lpV).ng n0)) = true) (hl : ∀ b ∈ bl, b = true) (hq : TrL (withB laW lpV) n0 nt (c' :: lc') (canon d nx2 l L) Q) : TrL (withB laW lpV) n0 nt (lc ++ c' :: lc') s Q :=
 TrL.road (hkB laW lpV) (CxOk.withB laW lpV) (withB_intr laW_sound lpV_sound) h1 h2 he hv ho hn hl hq
end Go.Proofs.YthopphfehgdocaaGreatDoor
