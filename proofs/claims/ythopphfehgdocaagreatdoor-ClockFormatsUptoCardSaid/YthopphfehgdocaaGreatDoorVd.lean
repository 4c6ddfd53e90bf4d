import Derived.Test.YthopphfehgdocaaGreatDoorVc
set_option linter.unusedSimpArgs false
set_option linter.unusedVariables false
namespace Go.Proofs.YthopphfehgdocaaGreatDoor
open Go Go.RowKit Go.Ev Go.Proofs Go.Shelf
noncomputable def wk45 : Code := match (Go.Ev.spine wcR).drop 2 with | a :: _ => a | _ => .skip
noncomputable def wkT : Code := match wk45 with | .cond _ a _ => a | _ => .skip
noncomputable def wkF : Code := match wk45 with | .cond _ _ b => b | _ => .skip
theorem wk_spine : Go.Ev.spine wcR = (Go.Ev.spine wcR).take 2 ++ (wk45 :: []) := by kernel_rfl
theorem wk_cond : wk45 = .cond (.tmp 45) wkT wkF := by kernel_rfl
noncomputable def wk56 : Code := match (Go.Ev.spine wkF).drop 2 with | a :: _ => a | _ => .skip
theorem wkF_spine : Go.Ev.spine wkF = (Go.Ev.spine wkF).take 2 ++ (wk56 :: []) := by kernel_rfl
noncomputable def wkC : Code := match wk56 with | .cond _ a _ => a | _ => .skip
noncomputable def wkD : Code := match wk56 with | .cond _ _ b => b | _ => .skip
theorem wk56_cond : wk56 = .cond (.tmp 56) wkC wkD := by kernel_rfl
noncomputable def wkOps : List Oper := match wkC with | .seq (.region _ o _) _ => o.toList.take 4 | _ => []
noncomputable def wkO : Oper := match wkC with | .seq (.region _ o _) _ => o.toList.getLastD default | _ => default
noncomputable def wk14 : Code := match wkC with | .seq _ b => b | _ => .skip
theorem wkC_eq : wkC = .seq (.region 13 (wkOps ++ [wkO]).toArray false) wk14 := by kernel_rfl
def lonC (c : Int) : Prop := c = 68 ∨ c = 120 ∨ c = 70 ∨ c = 82 ∨ c = 84 ∨ c = 88 ∨ c = 114 ∨ c = 99
section
variable (Y M D ho mi : Int) (S : Nat) (W J n iy iw su mo : Int) (f : ByteArray) (i : Int) {c : Int} {Q : AExit → St → Prop} {c' : Code} {lc' : List Code}
theorem vx0 (h : lonC c) (hq : TrL (withB laW lpV) 110 66 (c' :: lc') (canon 7 120 (wT9 f i c ++ [(45, .bool false)]) (wN :: wBx Y M D ho mi S W J n iy iw su mo)) Q) : TrL (withB laW lpV) 110 66 ((Go.Ev.spine wcR).take 2 ++ c' :: lc') (wd0 Y M D ho mi S W J n iy iw su mo f i c) Q := by
 rcases h with rfl | rfl | rfl | rfl | rfl | rfl | rfl | rfl <;> exact rlW (m := []) (p := [false]) (k := 120) (n := 30) (by kernel_rfl) (by kernel_rfl) (by kernel_rfl) (by kernel_rfl) (fun r hr => jC (vO (by kernel_rfl) hr) (jC (vO (by kernel_rfl) hr) (bxs (by kernel_rfl) hr))) (by kernel_rfl) aN hq
theorem vy0 (h : lonC c) (hq : TrL (withB laW lpV) 110 66 (c' :: lc') (canon 7 120 (wT f i ++ [(12, .string (longerF c)), (56, .bool true)]) (wN :: wBx Y M D ho mi S W J n iy iw su mo)) Q) : TrL (withB laW lpV) 110 66 ((Go.Ev.spine wkF).take 2 ++ c' :: lc') (canon 7 120 (wT9 f i c ++ [(45, .bool false)]) (wN :: wBx Y M D ho mi S W J n iy iw su mo)) Q := by
 rcases h with rfl | rfl | rfl | rfl | rfl | rfl | rfl | rfl <;> exact rlW (m := []) (p := []) (k := 120) (n := 30) (by kernel_rfl) (by kernel_rfl) (by kernel_rfl) (by kernel_rfl) (fun r hr => jC (vO (by kernel_rfl) hr) (jC (vO (by kernel_rfl) hr) (bxs (by kernel_rfl) hr))) (by kernel_rfl) aN hq
theorem vx1 (s : ByteArray) (h : lonC c) (hq : TrL (withB laW lpV) 110 66 (c' :: lc') (canon 7 120 (wT9 f i c ++ [(45, .bool false)]) (wB s.size :: (111, 111, mkCells 111 5 1 false (bytesV s)) :: wBx Y M D ho mi S W J n iy iw su mo)) Q) : TrL (withB laW lpV) 110 66 ((Go.Ev.spine wcR).take 2 ++ c' :: lc') (wd1 Y M D ho mi S W J n iy iw su mo f i c s) Q := by
 rcases h with rfl | rfl | rfl | rfl | rfl | rfl | rfl | rfl <;> exact rlW (m := []) (p := [false]) (k := 120) (n := 30) (by kernel_rfl) (by kernel_rfl) (by kernel_rfl) (by kernel_rfl) (fun r hr => jC (vO (by kernel_rfl) hr) (jC (row_same (by kernel_rfl) hr) (jC (vO (by kernel_rfl) hr) (bxs (by kernel_rfl) hr)))) (by kernel_rfl) aN hq
theorem vy1 (s : ByteArray) (h : lonC c) (hq : TrL (withB laW lpV) 110 66 (c' :: lc') (canon 7 120 (wT f i ++ [(12, .string (longerF c)), (56, .bool true)]) (wB s.size :: (111, 111, mkCells 111 5 1 false (bytesV s)) :: wBx Y M D ho mi S W J n iy iw su mo)) Q) : TrL (withB laW lpV) 110 66 ((Go.Ev.spine wkF).take 2 ++ c' :: lc') (canon 7 120 (wT9 f i c ++ [(45, .bool false)]) (wB s.size :: (111, 111, mkCells 111 5 1 false (bytesV s)) :: wBx Y M D ho mi S W J n iy iw su mo)) Q := by
 rcases h with rfl | rfl | rfl | rfl | rfl | rfl | rfl | rfl <;> exact rlW (m := []) (p := []) (k := 120) (n := 30) (by kernel_rfl) (by kernel_rfl) (by kernel_rfl) (by kernel_rfl) (fun r hr => jC (vO (by kernel_rfl) hr) (jC (row_same (by kernel_rfl) hr) (jC (vO (by kernel_rfl) hr) (bxs (by kernel_rfl) hr)))) (by kernel_rfl) aN hq
end
section
variable (Y M D ho mi : Int) (S : Nat) (W J n iy iw su mo : Int) (f : ByteArray) (i : Int) (l s : ByteArray)
def vkT : List (Nat × Value) := [(1, .pointer (some ⟨13, 0, none⟩)), (2, .string f), (3, .map (some 24)), (4, .pointer (some ⟨110, 0, none⟩)), (8, .int .i64 i), (12, .string l), (56, .bool true)]
def vk0 : St := canon 7 120 (vkT f i l) ((13, 13, mkCells 13 68 2 true [.pointer none, .slice none 0 0]) :: (110, 110, mkCells 110 62 13 true (moV Y M D ho mi S W J n iy iw su mo)) :: wcBx)
def vk1 : St := canon 7 120 (vkT f i l) ((13, 13, mkCells 13 68 2 true [.pointer (some ⟨13, 0, none⟩), .slice (some ⟨111, 0, none⟩) s.size s.size]) :: (111, 111, mkCells 111 5 1 false (bytesV s)) :: (110, 110, mkCells 110 62 13 true (moV Y M D ho mi S W J n iy iw su mo)) :: wcBx)
noncomputable def vs0 : St := match evOps (withB laW lpV) (evFunc (withB laW lpV) 120) (wkOps ++ [wkO]).toArray 66 wkOps (vk0 Y M D ho mi S W J n iy iw su mo f i l) with
 | some t => t
 | none => canon 0 0 [] []
noncomputable def vs1 : St := match evOps (withB laW lpV) (evFunc (withB laW lpV) 120) (wkOps ++ [wkO]).toArray 66 wkOps (vk1 Y M D ho mi S W J n iy iw su mo f i l s) with
 | some t => t
 | none => canon 0 0 [] []
theorem vs0_ok : evOps (withB laW lpV) (evFunc (withB laW lpV) 120) (wkOps ++ [wkO]).toArray 66 wkOps (vk0 Y M D ho mi S W J n iy iw su mo f i l) = some (vs0 Y M D ho mi S W J n iy iw su mo f i l) := by kernel_rfl
theorem vs1_ok : evOps (withB laW lpV) (evFunc (withB laW lpV) 120) (wkOps ++ [wkO]).toArray 66 wkOps (vk1 Y M D ho mi S W J n iy iw su mo f i l s) = some (vs1 Y M D ho mi S W J n iy iw su mo f i l s) := by kernel_rfl
theorem vs0_nx : (vs0 Y M D ho mi S W J n iy iw su mo f i l).nx = 124 := by kernel_rfl
theorem vs1_nx : (vs1 Y M D ho mi S W J n iy iw su mo f i l s).nx = 124 := by kernel_rfl
theorem wkO_guard : wkO.guard = none := by kernel_rfl
theorem vs0_co : constsOk (withB laW lpV) (vs0 Y M D ho mi S W J n iy iw su mo f i l).tm wkO = true := by kernel_rfl
theorem vs1_co : constsOk (withB laW lpV) (vs1 Y M D ho mi S W J n iy iw su mo f i l s).tm wkO = true := by kernel_rfl
theorem vs0_en : evOp (withB laW lpV) (St.eval (vs0 Y M D ho mi S W J n iy iw su mo f i l).tm) wkO (vs0 Y M D ho mi S W J n iy iw su mo f i l).nx (vs0 Y M D ho mi S W J n iy iw su mo f i l).H = some (.enter 34 #[.agg (moV Y M D ho mi S W J n iy iw su mo).toArray, .pointer (some ⟨13, 0, none⟩), .string l, .map (some 24)], (vs0 Y M D ho mi S W J n iy iw su mo f i l).H) := by kernel_rfl
theorem vs1_en : evOp (withB laW lpV) (St.eval (vs1 Y M D ho mi S W J n iy iw su mo f i l s).tm) wkO (vs1 Y M D ho mi S W J n iy iw su mo f i l s).nx (vs1 Y M D ho mi S W J n iy iw su mo f i l s).H = some (.enter 34 #[.agg (moV Y M D ho mi S W J n iy iw su mo).toArray, .pointer (some ⟨13, 0, none⟩), .string l, .map (some 24)], (vs1 Y M D ho mi S W J n iy iw su mo f i l s).H) := by kernel_rfl
end
theorem f34_body : (withB laW lpV).body 34 = some Tryz.f34 := by kernel_rfl
theorem f34_code : ∃ c, Tryz.f34.body = some c ∧ Go.Ev.spine c = (Go.Ev.spine c).take 2 ++ (.block 0 (.loop wcB) :: []) := ⟨_, rfl, by kernel_rfl⟩
theorem f34_tmps : max 4 Tryz.f34.ntmps = 66 := by kernel_rfl
theorem f34_res : Tryz.f34.results.toList = [] := by kernel_rfl
theorem vn0 (Y M D ho mi : Int) (S : Nat) (W J n iy iw su mo : Int) (f : ByteArray) (i : Int) (l : ByteArray)  {Q : AExit → St → Prop} {c' : Code} {lc' : List Code} (hq : TrL (withB laW lpV) 125 66 (c' :: lc') (canon 7 126 (vcT l 0) (vcN :: vcBx Y M D ho mi S W J n iy iw su mo)) Q) : TrL (withB laW lpV) 125 66 ((bodyOf Tryz.f34).take 2 ++ c' :: lc') (entry Tryz.f34 #[.agg (moV Y M D ho mi S W J n iy iw su mo).toArray, .pointer (some ⟨13, 0, none⟩), .string l, .map (some 24)] (vs0 Y M D ho mi S W J n iy iw su mo f i l).H 125) Q :=
 TrL.road (hkB laW lpV) (CxOk.withB laW lpV) (withB_intr laW_sound lpV_sound) (m := []) (bl := []) (p := []) (k := 120) (n := 30) (d := 7) (nx2 := 126) (l := (vcT l 0)) (L := (vcN :: vcBx Y M D ho mi S W J n iy iw su mo)) (by kernel_rfl) (by kernel_rfl) (by kernel_rfl) (by kernel_rfl) (fun r hr => jC (vO (by kernel_rfl) hr) (jC (vO (by kernel_rfl) hr) (jC (vO (by kernel_rfl) hr) (jC (map_of (by kernel_rfl) hr) (jC (vO (by kernel_rfl) hr) (jC (vO (by kernel_rfl) hr) (jC (vO (by kernel_rfl) hr) (jC (vO (by kernel_rfl) hr) (jC (vO (by kernel_rfl) hr) (jC (vO (by kernel_rfl) hr) (jC (vO (by kernel_rfl) hr) (jC (vO (by kernel_rfl) hr) (jC (vO (by kernel_rfl) hr) (jC (vO (by kernel_rfl) hr) jN)))))))))))))) (by kernel_rfl) aN hq
theorem vn1 (Y M D ho mi : Int) (S : Nat) (W J n iy iw su mo : Int) (f : ByteArray) (i : Int) (l : ByteArray) (s : ByteArray)  {Q : AExit → St → Prop} {c' : Code} {lc' : List Code} (hq : TrL (withB laW lpV) 125 66 (c' :: lc') (canon 7 126 (vcT l 0) (vcB 111 s.size :: (111, 111, mkCells 111 5 1 false (bytesV s)) :: vcBx Y M D ho mi S W J n iy iw su mo)) Q) : TrL (withB laW lpV) 125 66 ((bodyOf Tryz.f34).take 2 ++ c' :: lc') (entry Tryz.f34 #[.agg (moV Y M D ho mi S W J n iy iw su mo).toArray, .pointer (some ⟨13, 0, none⟩), .string l, .map (some 24)] (vs1 Y M D ho mi S W J n iy iw su mo f i l s).H 125) Q :=
 TrL.road (hkB laW lpV) (CxOk.withB laW lpV) (withB_intr laW_sound lpV_sound) (m := []) (bl := []) (p := []) (k := 120) (n := 30) (d := 7) (nx2 := 126) (l := (vcT l 0)) (L := (vcB 111 s.size :: (111, 111, mkCells 111 5 1 false (bytesV s)) :: vcBx Y M D ho mi S W J n iy iw su mo)) (by kernel_rfl) (by kernel_rfl) (by kernel_rfl) (by kernel_rfl) (fun r hr => jC (vO (by kernel_rfl) hr) (jC (row_same (by kernel_rfl) hr) (jC (vO (by kernel_rfl) hr) (jC (vO (by kernel_rfl) hr) (jC (map_of (by kernel_rfl) hr) (jC (vO (by kernel_rfl) hr) (jC (vO (by kernel_rfl) hr) (jC (vO (by kernel_rfl) hr) (jC (vO (by kernel_rfl) hr) (jC (vO (by kernel_rfl) hr) (jC (vO (by kernel_rfl) hr) (jC (vO (by kernel_rfl) hr) (jC (vO (by kernel_rfl) hr) (jC (vO (by kernel_rfl) hr) (jC (vO (by kernel_rfl) hr) jN))))))))))))))) (by kernel_rfl) aN hq
theorem wz00 (Y M D ho mi : Int) (S : Nat) (W J n iy iw su mo : Int) (f : ByteArray) (i : Int) (l : ByteArray) (j : Int)  {Q : AExit → St → Prop} (hq : Q .normal (canon 7 111 [(1, (Value.pointer (Option.some (Go.Addr.mk 13 0 (Option.none))))), (2, (Value.string f)), (3, (Value.map (Option.some 24))), (4, (Value.pointer (Option.some (Go.Addr.mk 110 0 (Option.none))))), (8, (Value.int IntKind.i64 (IntKind.i64.wrap (i + 1))))] ((13, 13, mkCells 13 68 2 true [.pointer none, .slice none 0 0]) :: (110, 110, mkCells 110 62 13 true (moV Y M D ho mi S W J n iy iw su mo)) :: wcBx))) : Tr (withB laW lpV) 110 66 (wk14) (({ tm := (vs0 Y M D ho mi S W J n iy iw su mo f i l).tm.set 61 (.tuple #[]), H := (vc0 Y M D ho mi S W J n iy iw su mo l j).H, nx := 126 } : St)) Q :=
 Tr.road (hkB laW lpV) (CxOk.withB laW lpV) (withB_intr laW_sound lpV_sound) (m := []) (bl := []) (p := []) (k := 120) (n := 30) (d := 7) (nx2 := 111) (l := [(1, (Value.pointer (Option.some (Go.Addr.mk 13 0 (Option.none))))), (2, (Value.string f)), (3, (Value.map (Option.some 24))), (4, (Value.pointer (Option.some (Go.Addr.mk 110 0 (Option.none))))), (8, (Value.int IntKind.i64 (IntKind.i64.wrap (i + 1))))]) (L := ((13, 13, mkCells 13 68 2 true [.pointer none, .slice none 0 0]) :: (110, 110, mkCells 110 62 13 true (moV Y M D ho mi S W J n iy iw su mo)) :: wcBx)) (e := .normal) (by kernel_rfl) (by kernel_rfl) (by kernel_rfl) (by kernel_rfl) (fun r hr => jC (vO (by kernel_rfl) hr) (jC (vO (by kernel_rfl) hr) (jC (map_of (by kernel_rfl) hr) (jC (vO (by kernel_rfl) hr) (jC (vO (by kernel_rfl) hr) (jC (vO (by kernel_rfl) hr) (jC (vO (by kernel_rfl) hr) (jC (vO (by kernel_rfl) hr) (jC (vO (by kernel_rfl) hr) (jC (vO (by kernel_rfl) hr) (jC (vO (by kernel_rfl) hr) (jC (vO (by kernel_rfl) hr) (jC (vO (by kernel_rfl) hr) jN))))))))))))) (by kernel_rfl) aN hq
theorem wz01 (Y M D ho mi : Int) (S : Nat) (W J n iy iw su mo : Int) (f : ByteArray) (i : Int) (l : ByteArray) (j : Int) (t : ByteArray)  {Q : AExit → St → Prop} (hq : Q .normal (canon 7 112 [(1, (Value.pointer (Option.some (Go.Addr.mk 13 0 (Option.none))))), (2, (Value.string f)), (3, (Value.map (Option.some 24))), (4, (Value.pointer (Option.some (Go.Addr.mk 110 0 (Option.none))))), (8, (Value.int IntKind.i64 (IntKind.i64.wrap (i + 1))))] ((13, 13, mkCells 13 68 2 true [.pointer (some ⟨13, 0, none⟩), .slice (some ⟨111, 0, none⟩) t.size t.size]) :: (111, 126, mkCells 111 5 1 false (bytesV t)) :: (110, 110, mkCells 110 62 13 true (moV Y M D ho mi S W J n iy iw su mo)) :: wcBx))) : Tr (withB laW lpV) 110 66 (wk14) (({ tm := (vs0 Y M D ho mi S W J n iy iw su mo f i l).tm.set 61 (.tuple #[]), H := (vc1 Y M D ho mi S W J n iy iw su mo l j t).H, nx := 127 } : St)) Q :=
 Tr.road (hkB laW lpV) (CxOk.withB laW lpV) (withB_intr laW_sound lpV_sound) (m := []) (bl := []) (p := []) (k := 120) (n := 30) (d := 7) (nx2 := 112) (l := [(1, (Value.pointer (Option.some (Go.Addr.mk 13 0 (Option.none))))), (2, (Value.string f)), (3, (Value.map (Option.some 24))), (4, (Value.pointer (Option.some (Go.Addr.mk 110 0 (Option.none))))), (8, (Value.int IntKind.i64 (IntKind.i64.wrap (i + 1))))]) (L := ((13, 13, mkCells 13 68 2 true [.pointer (some ⟨13, 0, none⟩), .slice (some ⟨111, 0, none⟩) t.size t.size]) :: (111, 126, mkCells 111 5 1 false (bytesV t)) :: (110, 110, mkCells 110 62 13 true (moV Y M D ho mi S W J n iy iw su mo)) :: wcBx)) (e := .normal) (by kernel_rfl) (by kernel_rfl) (by kernel_rfl) (by kernel_rfl) (fun r hr => jC (vO (by kernel_rfl) hr) (jC (row_same (by kernel_rfl) hr) (jC (vO (by kernel_rfl) hr) (jC (map_of (by kernel_rfl) hr) (jC (vO (by kernel_rfl) hr) (jC (vO (by kernel_rfl) hr) (jC (vO (by kernel_rfl) hr) (jC (vO (by kernel_rfl) hr) (jC (vO (by kernel_rfl) hr) (jC (vO (by kernel_rfl) hr) (jC (vO (by kernel_rfl) hr) (jC (vO (by kernel_rfl) hr) (jC (vO (by kernel_rfl) hr) (jC (vO (by kernel_rfl) hr) jN)))))))))))))) (by kernel_rfl) aN hq
theorem wz02 (Y M D ho mi : Int) (S : Nat) (W J n iy iw su mo : Int) (f : ByteArray) (i : Int) (l : ByteArray) (j : Int) (t : ByteArray)  {Q : AExit → St → Prop} (hq : Q .normal (canon 7 112 [(1, (Value.pointer (Option.some (Go.Addr.mk 13 0 (Option.none))))), (2, (Value.string f)), (3, (Value.map (Option.some 24))), (4, (Value.pointer (Option.some (Go.Addr.mk 110 0 (Option.none))))), (8, (Value.int IntKind.i64 (IntKind.i64.wrap (i + 1))))] ((13, 13, mkCells 13 68 2 true [.pointer (some ⟨13, 0, none⟩), .slice (some ⟨111, 0, none⟩) t.size t.size]) :: (111, 111, mkCells 111 5 1 false (bytesV t)) :: (110, 110, mkCells 110 62 13 true (moV Y M D ho mi S W J n iy iw su mo)) :: wcBx))) : Tr (withB laW lpV) 110 66 (wk14) (({ tm := (vs0 Y M D ho mi S W J n iy iw su mo f i l).tm.set 61 (.tuple #[]), H := (vc2 Y M D ho mi S W J n iy iw su mo l j t).H, nx := 126 } : St)) Q :=
 Tr.road (hkB laW lpV) (CxOk.withB laW lpV) (withB_intr laW_sound lpV_sound) (m := []) (bl := []) (p := []) (k := 120) (n := 30) (d := 7) (nx2 := 112) (l := [(1, (Value.pointer (Option.some (Go.Addr.mk 13 0 (Option.none))))), (2, (Value.string f)), (3, (Value.map (Option.some 24))), (4, (Value.pointer (Option.some (Go.Addr.mk 110 0 (Option.none))))), (8, (Value.int IntKind.i64 (IntKind.i64.wrap (i + 1))))]) (L := ((13, 13, mkCells 13 68 2 true [.pointer (some ⟨13, 0, none⟩), .slice (some ⟨111, 0, none⟩) t.size t.size]) :: (111, 111, mkCells 111 5 1 false (bytesV t)) :: (110, 110, mkCells 110 62 13 true (moV Y M D ho mi S W J n iy iw su mo)) :: wcBx)) (e := .normal) (by kernel_rfl) (by kernel_rfl) (by kernel_rfl) (by kernel_rfl) (fun r hr => jC (vO (by kernel_rfl) hr) (jC (row_same (by kernel_rfl) hr) (jC (vO (by kernel_rfl) hr) (jC (map_of (by kernel_rfl) hr) (jC (vO (by kernel_rfl) hr) (jC (vO (by kernel_rfl) hr) (jC (vO (by kernel_rfl) hr) (jC (vO (by kernel_rfl) hr) (jC (vO (by kernel_rfl) hr) (jC (vO (by kernel_rfl) hr) (jC (vO (by kernel_rfl) hr) (jC (vO (by kernel_rfl) hr) (jC (vO (by kernel_rfl) hr) (jC (vO (by kernel_rfl) hr) jN)))))))))))))) (by kernel_rfl) aN hq
theorem wz10 (Y M D ho mi : Int) (S : Nat) (W J n iy iw su mo : Int) (f : ByteArray) (i : Int) (l : ByteArray) (s : ByteArray) (j : Int)  {Q : AExit → St → Prop} (hq : Q .normal (canon 7 111 [(1, (Value.pointer (Option.some (Go.Addr.mk 13 0 (Option.none))))), (2, (Value.string f)), (3, (Value.map (Option.some 24))), (4, (Value.pointer (Option.some (Go.Addr.mk 110 0 (Option.none))))), (8, (Value.int IntKind.i64 (IntKind.i64.wrap (i + 1))))] ((13, 13, mkCells 13 68 2 true [.pointer none, .slice none 0 0]) :: (110, 110, mkCells 110 62 13 true (moV Y M D ho mi S W J n iy iw su mo)) :: wcBx))) : Tr (withB laW lpV) 110 66 (wk14) (({ tm := (vs1 Y M D ho mi S W J n iy iw su mo f i l s).tm.set 61 (.tuple #[]), H := (vc0 Y M D ho mi S W J n iy iw su mo l j).H, nx := 126 } : St)) Q :=
 Tr.road (hkB laW lpV) (CxOk.withB laW lpV) (withB_intr laW_sound lpV_sound) (m := []) (bl := []) (p := []) (k := 120) (n := 30) (d := 7) (nx2 := 111) (l := [(1, (Value.pointer (Option.some (Go.Addr.mk 13 0 (Option.none))))), (2, (Value.string f)), (3, (Value.map (Option.some 24))), (4, (Value.pointer (Option.some (Go.Addr.mk 110 0 (Option.none))))), (8, (Value.int IntKind.i64 (IntKind.i64.wrap (i + 1))))]) (L := ((13, 13, mkCells 13 68 2 true [.pointer none, .slice none 0 0]) :: (110, 110, mkCells 110 62 13 true (moV Y M D ho mi S W J n iy iw su mo)) :: wcBx)) (e := .normal) (by kernel_rfl) (by kernel_rfl) (by kernel_rfl) (by kernel_rfl) (fun r hr => jC (vO (by kernel_rfl) hr) (jC (vO (by kernel_rfl) hr) (jC (map_of (by kernel_rfl) hr) (jC (vO (by kernel_rfl) hr) (jC (vO (by kernel_rfl) hr) (jC (vO (by kernel_rfl) hr) (jC (vO (by kernel_rfl) hr) (jC (vO (by kernel_rfl) hr) (jC (vO (by kernel_rfl) hr) (jC (vO (by kernel_rfl) hr) (jC (vO (by kernel_rfl) hr) (jC (vO (by kernel_rfl) hr) (jC (vO (by kernel_rfl) hr) jN))))))))))))) (by kernel_rfl) aN hq
theorem wz11 (Y M D ho mi : Int) (S : Nat) (W J n iy iw su mo : Int) (f : ByteArray) (i : Int) (l : ByteArray) (s : ByteArray) (j : Int) (t : ByteArray)  {Q : AExit → St → Prop} (hq : Q .normal (canon 7 112 [(1, (Value.pointer (Option.some (Go.Addr.mk 13 0 (Option.none))))), (2, (Value.string f)), (3, (Value.map (Option.some 24))), (4, (Value.pointer (Option.some (Go.Addr.mk 110 0 (Option.none))))), (8, (Value.int IntKind.i64 (IntKind.i64.wrap (i + 1))))] ((13, 13, mkCells 13 68 2 true [.pointer (some ⟨13, 0, none⟩), .slice (some ⟨111, 0, none⟩) t.size t.size]) :: (111, 126, mkCells 111 5 1 false (bytesV t)) :: (110, 110, mkCells 110 62 13 true (moV Y M D ho mi S W J n iy iw su mo)) :: wcBx))) : Tr (withB laW lpV) 110 66 (wk14) (({ tm := (vs1 Y M D ho mi S W J n iy iw su mo f i l s).tm.set 61 (.tuple #[]), H := (vc1 Y M D ho mi S W J n iy iw su mo l j t).H, nx := 127 } : St)) Q :=
 Tr.road (hkB laW lpV) (CxOk.withB laW lpV) (withB_intr laW_sound lpV_sound) (m := []) (bl := []) (p := []) (k := 120) (n := 30) (d := 7) (nx2 := 112) (l := [(1, (Value.pointer (Option.some (Go.Addr.mk 13 0 (Option.none))))), (2, (Value.string f)), (3, (Value.map (Option.some 24))), (4, (Value.pointer (Option.some (Go.Addr.mk 110 0 (Option.none))))), (8, (Value.int IntKind.i64 (IntKind.i64.wrap (i + 1))))]) (L := ((13, 13, mkCells 13 68 2 true [.pointer (some ⟨13, 0, none⟩), .slice (some ⟨111, 0, none⟩) t.size t.size]) :: (111, 126, mkCells 111 5 1 false (bytesV t)) :: (110, 110, mkCells 110 62 13 true (moV Y M D ho mi S W J n iy iw su mo)) :: wcBx)) (e := .normal) (by kernel_rfl) (by kernel_rfl) (by kernel_rfl) (by kernel_rfl) (fun r hr => jC (vO (by kernel_rfl) hr) (jC (row_same (by kernel_rfl) hr) (jC (vO (by kernel_rfl) hr) (jC (map_of (by kernel_rfl) hr) (jC (vO (by kernel_rfl) hr) (jC (vO (by kernel_rfl) hr) (jC (vO (by kernel_rfl) hr) (jC (vO (by kernel_rfl) hr) (jC (vO (by kernel_rfl) hr) (jC (vO (by kernel_rfl) hr) (jC (vO (by kernel_rfl) hr) (jC (vO (by kernel_rfl) hr) (jC (vO (by kernel_rfl) hr) (jC (vO (by kernel_rfl) hr) jN)))))))))))))) (by kernel_rfl) aN hq
theorem wz12 (Y M D ho mi : Int) (S : Nat) (W J n iy iw su mo : Int) (f : ByteArray) (i : Int) (l : ByteArray) (s : ByteArray) (j : Int) (t : ByteArray)  {Q : AExit → St → Prop} (hq : Q .normal (canon 7 112 [(1, (Value.pointer (Option.some (Go.Addr.mk 13 0 (Option.none))))), (2, (Value.string f)), (3, (Value.map (Option.some 24))), (4, (Value.pointer (Option.some (Go.Addr.mk 110 0 (Option.none))))), (8, (Value.int IntKind.i64 (IntKind.i64.wrap (i + 1))))] ((13, 13, mkCells 13 68 2 true [.pointer (some ⟨13, 0, none⟩), .slice (some ⟨111, 0, none⟩) t.size t.size]) :: (111, 111, mkCells 111 5 1 false (bytesV t)) :: (110, 110, mkCells 110 62 13 true (moV Y M D ho mi S W J n iy iw su mo)) :: wcBx))) : Tr (withB laW lpV) 110 66 (wk14) (({ tm := (vs1 Y M D ho mi S W J n iy iw su mo f i l s).tm.set 61 (.tuple #[]), H := (vc2 Y M D ho mi S W J n iy iw su mo l j t).H, nx := 126 } : St)) Q :=
 Tr.road (hkB laW lpV) (CxOk.withB laW lpV) (withB_intr laW_sound lpV_sound) (m := []) (bl := []) (p := []) (k := 120) (n := 30) (d := 7) (nx2 := 112) (l := [(1, (Value.pointer (Option.some (Go.Addr.mk 13 0 (Option.none))))), (2, (Value.string f)), (3, (Value.map (Option.some 24))), (4, (Value.pointer (Option.some (Go.Addr.mk 110 0 (Option.none))))), (8, (Value.int IntKind.i64 (IntKind.i64.wrap (i + 1))))]) (L := ((13, 13, mkCells 13 68 2 true [.pointer (some ⟨13, 0, none⟩), .slice (some ⟨111, 0, none⟩) t.size t.size]) :: (111, 111, mkCells 111 5 1 false (bytesV t)) :: (110, 110, mkCells 110 62 13 true (moV Y M D ho mi S W J n iy iw su mo)) :: wcBx)) (e := .normal) (by kernel_rfl) (by kernel_rfl) (by kernel_rfl) (by kernel_rfl) (fun r hr => jC (vO (by kernel_rfl) hr) (jC (row_same (by kernel_rfl) hr) (jC (vO (by kernel_rfl) hr) (jC (map_of (by kernel_rfl) hr) (jC (vO (by kernel_rfl) hr) (jC (vO (by kernel_rfl) hr) (jC (vO (by kernel_rfl) hr) (jC (vO (by kernel_rfl) hr) (jC (vO (by kernel_rfl) hr) (jC (vO (by kernel_rfl) hr) (jC (vO (by kernel_rfl) hr) (jC (vO (by kernel_rfl) hr) (jC (vO (by kernel_rfl) hr) (jC (vO (by kernel_rfl) hr) jN)))))))))))))) (by kernel_rfl) aN hq
end Go.Proofs.YthopphfehgdocaaGreatDoor
namespace Go.Ev
theorem TrL.one {cx : Cx} {n0 nt : Nat} {c : Code} {s : St} {Q : AExit → St → Prop} (h : Tr cx n0 nt c s Q) : TrL cx n0 nt [c] s Q := Tr.mono h fun e s1 q => by
 cases e with
 | normal => exact q
 | exit k => exact q
 | ret => exact q
end Go.Ev
namespace Go.Proofs.YthopphfehgdocaaGreatDoor
open Go Go.RowKit Go.Ev Go.Proofs Go.Shelf
section
variable (Y M D ho mi : Int) (S : Nat) (W J n iy iw su mo : Int) (f : ByteArray) (i : Int) (l s : ByteArray)
def vR (tot : ByteArray) : Value → Hp → Nat → Prop := fun v H nx => v = .tuple #[] ∧ ∃ o, H = (vcSt Y M D ho mi S W J n iy iw su mo l o tot l.size).H ∧ nx = (vcSt Y M D ho mi S W J n iy iw su mo l o tot l.size).nx
theorem vcall0 (tot : ByteArray) (hb : l.size ≤ 1000000000) (ht : tot.size ≤ 1000000000) (hw : ByteArray.empty ++ wrL (dirWF Y M D ho mi S W J n iy iw su mo) l.data.toList = tot) (hk : wrK (dirWK Y M D ho mi S W J n iy iw su mo) l.data.toList = true) {c : Code} (hc : Tryz.f34.body = some c) (hsp : Go.Ev.spine c = (Go.Ev.spine c).take 2 ++ (.block 0 (.loop wcB) :: [])) :
  Tr (withB laW lpV) 125 66 c (entry Tryz.f34 #[.agg (moV Y M D ho mi S W J n iy iw su mo).toArray, .pointer (some ⟨13, 0, none⟩), .string l, .map (some 24)] (vs0 Y M D ho mi S W J n iy iw su mo f i l).H 125) fun e s2 => (match e with | .exit _ => False | _ => True) ∧ ∃ q, evResults (withB laW lpV) s2.tm s2.H Tryz.f34.results.toList = some q ∧ vR Y M D ho mi S W J n iy iw su mo l tot (oneOf q) s2.H s2.nx := by
 refine Tr.of_spine c ?_
 rw [hsp]
 have h2 : (Go.Ev.spine c).take 2 = (bodyOf Tryz.f34).take 2 := by unfold bodyOf; rw [hc]
 rw [h2]
 refine vn0 Y M D ho mi S W J n iy iw su mo f i l ?_
 refine TrL.one ?_
 refine Tr.mono (Q := fun e st => e = .normal ∧ ∃ o, st = vcSt Y M D ho mi S W J n iy iw su mo l o tot l.size) ?_ ?_
 ·have lp := vc_loop Y M D ho mi S W J n iy iw su mo (f := l) ByteArray.empty tot hb ht hw hk
  have e0 : vcSt Y M D ho mi S W J n iy iw su mo l true ByteArray.empty 0 = vc0 Y M D ho mi S W J n iy iw su mo l ((0 : Nat) : Int) := by
   unfold vcSt
   rw [if_neg (by decide), if_pos (show ByteArray.empty.size = 0 from rfl)]
  rw [e0] at lp
  refine Tr.block lp (fun st h => ⟨rfl, h.2⟩) (fun e st h hne => absurd h.1 hne)
 ·rintro e st ⟨rfl, o, rfl⟩
  refine ⟨trivial, [], ?_, rfl, o, rfl, rfl⟩
  rw [f34_res]
  rfl
theorem vcall1 (tot : ByteArray) (hs : s.size ≠ 0) (hb : l.size ≤ 1000000000) (ht : tot.size ≤ 1000000000) (hw : s ++ wrL (dirWF Y M D ho mi S W J n iy iw su mo) l.data.toList = tot) (hk : wrK (dirWK Y M D ho mi S W J n iy iw su mo) l.data.toList = true) {c : Code} (hc : Tryz.f34.body = some c) (hsp : Go.Ev.spine c = (Go.Ev.spine c).take 2 ++ (.block 0 (.loop wcB) :: [])) :
  Tr (withB laW lpV) 125 66 c (entry Tryz.f34 #[.agg (moV Y M D ho mi S W J n iy iw su mo).toArray, .pointer (some ⟨13, 0, none⟩), .string l, .map (some 24)] (vs1 Y M D ho mi S W J n iy iw su mo f i l s).H 125) fun e s2 => (match e with | .exit _ => False | _ => True) ∧ ∃ q, evResults (withB laW lpV) s2.tm s2.H Tryz.f34.results.toList = some q ∧ vR Y M D ho mi S W J n iy iw su mo l tot (oneOf q) s2.H s2.nx := by
 refine Tr.of_spine c ?_
 rw [hsp]
 have h2 : (Go.Ev.spine c).take 2 = (bodyOf Tryz.f34).take 2 := by unfold bodyOf; rw [hc]
 rw [h2]
 refine vn1 Y M D ho mi S W J n iy iw su mo f i l s ?_
 refine TrL.one ?_
 refine Tr.mono (Q := fun e st => e = .normal ∧ ∃ o, st = vcSt Y M D ho mi S W J n iy iw su mo l o tot l.size) ?_ ?_
 ·have lp := vc_loop Y M D ho mi S W J n iy iw su mo (f := l) s tot hb ht hw hk
  have e0 : vcSt Y M D ho mi S W J n iy iw su mo l true s 0 = vc2 Y M D ho mi S W J n iy iw su mo l ((0 : Nat) : Int) s := by
   unfold vcSt
   rw [if_neg (by decide), if_neg hs]
  rw [e0] at lp
  refine Tr.block lp (fun st h => ⟨rfl, h.2⟩) (fun e st h hne => absurd h.1 hne)
 ·rintro e st ⟨rfl, o, rfl⟩
  refine ⟨trivial, [], ?_, rfl, o, rfl, rfl⟩
  rw [f34_res]
  rfl
theorem wkC_call0 (tot : ByteArray) (hb : l.size ≤ 1000000000) (ht : tot.size ≤ 1000000000) (hw : ByteArray.empty ++ wrL (dirWF Y M D ho mi S W J n iy iw su mo) l.data.toList = tot) (hk : wrK (dirWK Y M D ho mi S W J n iy iw su mo) l.data.toList = true) (Q1 : AExit → St → Prop)
  (h0 : tot.size = 0 → Q1 .normal (wc0 Y M D ho mi S W J n iy iw su mo f (IntKind.i64.wrap (i + 1)))) (h1 : tot.size ≠ 0 → ∀ b : Nat, Q1 .normal (canon 7 112 [(1, .pointer (some ⟨13, 0, none⟩)), (2, .string f), (3, .map (some 24)), (4, .pointer (some ⟨110, 0, none⟩)), (8, .int .i64 (IntKind.i64.wrap (i + 1)))] ((13, 13, mkCells 13 68 2 true [.pointer (some ⟨13, 0, none⟩), .slice (some ⟨111, 0, none⟩) tot.size tot.size]) :: (111, b, mkCells 111 5 1 false (bytesV tot)) :: (110, 110, mkCells 110 62 13 true (moV Y M D ho mi S W J n iy iw su mo)) :: wcBx))) (h2 : ∀ b : Nat, Q1 .normal (canon 7 112 [(1, .pointer (some ⟨13, 0, none⟩)), (2, .string f), (3, .map (some 24)), (4, .pointer (some ⟨110, 0, none⟩)), (8, .int .i64 (IntKind.i64.wrap (i + 1)))] ((13, 13, mkCells 13 68 2 true [.pointer (some ⟨13, 0, none⟩), .slice (some ⟨111, 0, none⟩) tot.size tot.size]) :: (111, b, mkCells 111 5 1 false (bytesV tot)) :: (110, 110, mkCells 110 62 13 true (moV Y M D ho mi S W J n iy iw su mo)) :: wcBx))) : Tr (withB laW lpV) 110 66 wkC (vk0 Y M D ho mi S W J n iy iw su mo f i l) Q1 := by
 obtain ⟨c, hc, hsp⟩ := f34_code
 have hnx := vs0_nx Y M D ho mi S W J n iy iw su mo f i l
 have hd : wkO.dst = some 61 := by kernel_rfl
 rw [wkC_eq]
 refine Tr.seq (Q1 := fun e st => e = .normal ∧ ∃ o, st = ({ tm := (vs0 Y M D ho mi S W J n iy iw su mo f i l).tm.set 61 (.tuple #[]), H := (vcSt Y M D ho mi S W J n iy iw su mo l o tot l.size).H, nx := (vcSt Y M D ho mi S W J n iy iw su mo l o tot l.size).nx } : St)) ?_ ?_ ?_
 ·refine Tr.region_call (CxOk.withB laW lpV) (withB_intr laW_sound lpV_sound) (k := 120) (s1 := vs0 Y M D ho mi S W J n iy iw su mo f i l) (f := 34) (fn := Tryz.f34) (c := c) (args := #[.agg (moV Y M D ho mi S W J n iy iw su mo).toArray, .pointer (some ⟨13, 0, none⟩), .string l, .map (some 24)]) (R := vR Y M D ho mi S W J n iy iw su mo l tot) (by show 110 ≤ 120; omega) (by rw [hnx]; omega) (vs0_ok Y M D ho mi S W J n iy iw su mo f i l) wkO_guard (vs0_co Y M D ho mi S W J n iy iw su mo f i l) (vs0_en Y M D ho mi S W J n iy iw su mo f i l) f34_body hc ?_ ?_ ?_
  ·rw [hnx]
   show Tr (withB laW lpV) 125 (max 4 Tryz.f34.ntmps) c _ _
   rw [f34_tmps]
   exact vcall0 Y M D ho mi S W J n iy iw su mo f i l tot hb ht hw hk hc hsp
  ·intro v
   rw [hd]
   exact ⟨_, rfl⟩
  ·rintro v tm2 H2 nx2 ⟨rfl, o, rfl, rfl⟩ hp
   rw [hd] at hp
   cases hp
   exact ⟨rfl, o, rfl⟩
 ·rintro st ⟨-, o, rfl⟩
  cases o with
  | false =>
   exact wz01 Y M D ho mi S W J n iy iw su mo f i l l.size tot (h2 _)
  | true =>
   by_cases hz : tot.size = 0
   ·have e : vcSt Y M D ho mi S W J n iy iw su mo l true tot l.size = vc0 Y M D ho mi S W J n iy iw su mo l (l.size : Int) := by
     unfold vcSt
     rw [if_neg (by decide), if_pos hz]
    rw [e]
    exact wz00 Y M D ho mi S W J n iy iw su mo f i l l.size (h0 hz)
   ·have e : vcSt Y M D ho mi S W J n iy iw su mo l true tot l.size = vc2 Y M D ho mi S W J n iy iw su mo l (l.size : Int) tot := by
     unfold vcSt
     rw [if_neg (by decide), if_neg hz]
    rw [e]
    exact wz02 Y M D ho mi S W J n iy iw su mo f i l l.size tot (h1 hz _)
 ·rintro e st ⟨rfl, -⟩ hne
  exact absurd rfl hne
theorem wkC_call1 (tot : ByteArray) (hs : s.size ≠ 0) (hb : l.size ≤ 1000000000) (ht : tot.size ≤ 1000000000) (hw : s ++ wrL (dirWF Y M D ho mi S W J n iy iw su mo) l.data.toList = tot) (hk : wrK (dirWK Y M D ho mi S W J n iy iw su mo) l.data.toList = true) (Q1 : AExit → St → Prop)
  (h0 : tot.size = 0 → Q1 .normal (wc0 Y M D ho mi S W J n iy iw su mo f (IntKind.i64.wrap (i + 1)))) (h1 : tot.size ≠ 0 → ∀ b : Nat, Q1 .normal (canon 7 112 [(1, .pointer (some ⟨13, 0, none⟩)), (2, .string f), (3, .map (some 24)), (4, .pointer (some ⟨110, 0, none⟩)), (8, .int .i64 (IntKind.i64.wrap (i + 1)))] ((13, 13, mkCells 13 68 2 true [.pointer (some ⟨13, 0, none⟩), .slice (some ⟨111, 0, none⟩) tot.size tot.size]) :: (111, b, mkCells 111 5 1 false (bytesV tot)) :: (110, 110, mkCells 110 62 13 true (moV Y M D ho mi S W J n iy iw su mo)) :: wcBx))) (h2 : ∀ b : Nat, Q1 .normal (canon 7 112 [(1, .pointer (some ⟨13, 0, none⟩)), (2, .string f), (3, .map (some 24)), (4, .pointer (some ⟨110, 0, none⟩)), (8, .int .i64 (IntKind.i64.wrap (i + 1)))] ((13, 13, mkCells 13 68 2 true [.pointer (some ⟨13, 0, none⟩), .slice (some ⟨111, 0, none⟩) tot.size tot.size]) :: (111, b, mkCells 111 5 1 false (bytesV tot)) :: (110, 110, mkCells 110 62 13 true (moV Y M D ho mi S W J n iy iw su mo)) :: wcBx))) : Tr (withB laW lpV) 110 66 wkC (vk1 Y M D ho mi S W J n iy iw su mo f i l s) Q1 := by
 obtain ⟨c, hc, hsp⟩ := f34_code
 have hnx := vs1_nx Y M D ho mi S W J n iy iw su mo f i l s
 have hd : wkO.dst = some 61 := by kernel_rfl
 rw [wkC_eq]
 refine Tr.seq (Q1 := fun e st => e = .normal ∧ ∃ o, st = ({ tm := (vs1 Y M D ho mi S W J n iy iw su mo f i l s).tm.set 61 (.tuple #[]), H := (vcSt Y M D ho mi S W J n iy iw su mo l o tot l.size).H, nx := (vcSt Y M D ho mi S W J n iy iw su mo l o tot l.size).nx } : St)) ?_ ?_ ?_
 ·refine Tr.region_call (CxOk.withB laW lpV) (withB_intr laW_sound lpV_sound) (k := 120) (s1 := vs1 Y M D ho mi S W J n iy iw su mo f i l s) (f := 34) (fn := Tryz.f34) (c := c) (args := #[.agg (moV Y M D ho mi S W J n iy iw su mo).toArray, .pointer (some ⟨13, 0, none⟩), .string l, .map (some 24)]) (R := vR Y M D ho mi S W J n iy iw su mo l tot) (by show 110 ≤ 120; omega) (by rw [hnx]; omega) (vs1_ok Y M D ho mi S W J n iy iw su mo f i l s) wkO_guard (vs1_co Y M D ho mi S W J n iy iw su mo f i l s) (vs1_en Y M D ho mi S W J n iy iw su mo f i l s) f34_body hc ?_ ?_ ?_
  ·rw [hnx]
   show Tr (withB laW lpV) 125 (max 4 Tryz.f34.ntmps) c _ _
   rw [f34_tmps]
   exact vcall1 Y M D ho mi S W J n iy iw su mo f i l s tot hs hb ht hw hk hc hsp
  ·intro v
   rw [hd]
   exact ⟨_, rfl⟩
  ·rintro v tm2 H2 nx2 ⟨rfl, o, rfl, rfl⟩ hp
   rw [hd] at hp
   cases hp
   exact ⟨rfl, o, rfl⟩
 ·rintro st ⟨-, o, rfl⟩
  cases o with
  | false =>
   exact wz11 Y M D ho mi S W J n iy iw su mo f i l s l.size tot (h2 _)
  | true =>
   by_cases hz : tot.size = 0
   ·have e : vcSt Y M D ho mi S W J n iy iw su mo l true tot l.size = vc0 Y M D ho mi S W J n iy iw su mo l (l.size : Int) := by
     unfold vcSt
     rw [if_neg (by decide), if_pos hz]
    rw [e]
    exact wz10 Y M D ho mi S W J n iy iw su mo f i l s l.size (h0 hz)
   ·have e : vcSt Y M D ho mi S W J n iy iw su mo l true tot l.size = vc2 Y M D ho mi S W J n iy iw su mo l (l.size : Int) tot := by
     unfold vcSt
     rw [if_neg (by decide), if_neg hz]
    rw [e]
    exact wz12 Y M D ho mi S W J n iy iw su mo f i l s l.size tot (h1 hz _)
 ·rintro e st ⟨rfl, -⟩ hne
  exact absurd rfl hne
end
end Go.Proofs.YthopphfehgdocaaGreatDoor
namespace Go.Proofs.YthopphfehgdocaaGreatDoor
open Go Go.RowKit Go.Ev Go.Proofs Go.Shelf
section
variable (Y M D ho mi : Int) (S : Nat) (W J n iy iw su mo : Int) (f : ByteArray) (i : Int) (s : ByteArray) {c : Int} {Q1 : AExit → St → Prop}
theorem wk0 (h : lonC c) (hc : Tr (withB laW lpV) 110 66 wkC (vk0 Y M D ho mi S W J n iy iw su mo f i (longerF c)) Q1) : Tr (withB laW lpV) 110 66 wcR (wd0 Y M D ho mi S W J n iy iw su mo f i c) Q1 := by
 refine Tr.of_spine wcR ?_
 rw [wk_spine]
 refine vx0 Y M D ho mi S W J n iy iw su mo f i h ?_
 refine TrL.one ?_
 rw [wk_cond]
 refine Tr.cond (b := false) (by kernel_rfl) (by kernel_rfl) ?_
 show Tr _ _ _ wkF _ _
 refine Tr.of_spine wkF ?_
 rw [wkF_spine]
 refine vy0 Y M D ho mi S W J n iy iw su mo f i h ?_
 refine TrL.one ?_
 rw [wk56_cond]
 exact Tr.cond (b := true) (by kernel_rfl) (by kernel_rfl) hc
theorem wk1 (h : lonC c) (hc : Tr (withB laW lpV) 110 66 wkC (vk1 Y M D ho mi S W J n iy iw su mo f i (longerF c) s) Q1) : Tr (withB laW lpV) 110 66 wcR (wd1 Y M D ho mi S W J n iy iw su mo f i c s) Q1 := by
 refine Tr.of_spine wcR ?_
 rw [wk_spine]
 refine vx1 Y M D ho mi S W J n iy iw su mo f i s h ?_
 refine TrL.one ?_
 rw [wk_cond]
 refine Tr.cond (b := false) (by kernel_rfl) (by kernel_rfl) ?_
 show Tr _ _ _ wkF _ _
 refine Tr.of_spine wkF ?_
 rw [wkF_spine]
 refine vy1 Y M D ho mi S W J n iy iw su mo f i s h ?_
 refine TrL.one ?_
 rw [wk56_cond]
 exact Tr.cond (b := true) (by kernel_rfl) (by kernel_rfl) hc
end
theorem lon_cases {c : Int} (h : (longerF c).size ≠ 0) : lonC c := by
 by_cases hc : lonC c
 ·exact hc
 exfalso
 apply h
 unfold lonC at hc
 simp only [not_or] at hc
 unfold longerF
 simp only [hc, if_false]
 rfl
theorem lon_short {c : Int} (h : lonC c) : (longerF c).size ≤ 1000 := by
 rcases h with rfl | rfl | rfl | rfl | rfl | rfl | rfl | rfl <;> decide
section
variable (Y M D ho mi : Int) (S : Nat) (W J n iy iw su mo : Int) {f : ByteArray}
theorem wc_lon {s : ByteArray} {i : Nat} {c : UInt8} (hi : i ≤ 1000000000) (hl : (longerF c.toNat).size ≠ 0) (tot : ByteArray) (ht : tot.size ≤ 1000000000) (hp : tot.size ≠ 0) (hw : s ++ wrL (dirWF Y M D ho mi S W J n iy iw su mo) (longerF c.toNat).data.toList = tot) (hk : wrK (dirWK Y M D ho mi S W J n iy iw su mo) (longerF c.toNat).data.toList = true) (Q1 : AExit → St → Prop)
  (hq : Q1 .normal (wcSt Y M D ho mi S W J n iy iw su mo f tot (i + 1))) : Tr (withB laW lpV) 110 66 wcR (wdSt Y M D ho mi S W J n iy iw su mo (f := f) s i c) Q1 := by
 have e2 : IntKind.i64.wrap ((i : Int) + 1) = ((i + 1 : Nat) : Int) := by rw [wrap_id _ (by omega) (by omega)]; rfl
 unfold wcSt at hq
 rw [if_neg hp] at hq
 have key : ∀ (l : ByteArray), l.size ≤ 1000 → s ++ wrL (dirWF Y M D ho mi S W J n iy iw su mo) l.data.toList = tot → wrK (dirWK Y M D ho mi S W J n iy iw su mo) l.data.toList = true → (s.size = 0 → Tr (withB laW lpV) 110 66 wkC (vk0 Y M D ho mi S W J n iy iw su mo f i l) Q1) ∧ (s.size ≠ 0 → Tr (withB laW lpV) 110 66 wkC (vk1 Y M D ho mi S W J n iy iw su mo f i l s) Q1) := by
  intro l hl2 hw2 hk2
  constructor
  ·intro hz
   have := ba_nil hz
   subst this
   refine wkC_call0 Y M D ho mi S W J n iy iw su mo f i l tot (by omega) ht hw2 hk2 Q1 (fun h => absurd h hp) (fun _ b => ?_) (fun b => ?_) <;> (rw [e2]; exact hq)
  ·intro hz
   refine wkC_call1 Y M D ho mi S W J n iy iw su mo f i l s tot hz (by omega) ht hw2 hk2 Q1 (fun h => absurd h hp) (fun _ b => ?_) (fun b => ?_) <;> (rw [e2]; exact hq)
 unfold wdSt
 have hl' := lon_cases hl
 obtain ⟨k0, k1⟩ := key _ (lon_short hl') hw hk
 by_cases hz : s.size = 0
 ·rw [if_pos hz]; exact wk0 Y M D ho mi S W J n iy iw su mo f i hl' (k0 hz)
 ·rw [if_neg hz]; exact wk1 Y M D ho mi S W J n iy iw su mo f i s hl' (k1 hz)
end
section
variable (Y M D ho mi : Int) (S : Nat) (W J n iy iw su mo : Int) {f : ByteArray}
def dirWG (c : UInt8) : ByteArray := if wcInF c.toNat = true then wcTF Y M D ho mi S W J n iy iw su mo c.toNat else if (longerF c.toNat).size = 0 then ⟨#[37, c]⟩ else wrL (dirWF Y M D ho mi S W J n iy iw su mo) (longerF c.toNat).data.toList
def dirWH (c : UInt8) : Bool := if wcInF c.toNat = true then wcOkF Y M D ho mi S W J n iy iw su mo c.toNat && decide (0 < (wcTF Y M D ho mi S W J n iy iw su mo c.toNat).size) else if (longerF c.toNat).size = 0 then true else wrK (dirWK Y M D ho mi S W J n iy iw su mo) (longerF c.toNat).data.toList && decide (0 < (wrL (dirWF Y M D ho mi S W J n iy iw su mo) (longerF c.toNat).data.toList).size)
def wcJ (tot : ByteArray) (m : Nat) (st : St) : Prop := ∃ (i : Nat) (s : ByteArray), st = wcSt Y M D ho mi S W J n iy iw su mo f s i ∧ i ≤ f.size ∧ s ++ wrL (dirWG Y M D ho mi S W J n iy iw su mo) (f.data.toList.drop i) = tot ∧ wrK (dirWH Y M D ho mi S W J n iy iw su mo) (f.data.toList.drop i) = true ∧ m = f.size - i
theorem wc_loop2 (tot : ByteArray) (hb : f.size ≤ 1000000000) (ht : tot.size ≤ 1000000000) (hw : wrL (dirWG Y M D ho mi S W J n iy iw su mo) f.data.toList = tot) (hk : wrK (dirWH Y M D ho mi S W J n iy iw su mo) f.data.toList = true) :
  Tr (withB laW lpV) 110 66 (.loop wcB) (wc0 Y M D ho mi S W J n iy iw su mo f 0) fun e s => e = .exit 0 ∧ s = wcSt Y M D ho mi S W J n iy iw su mo f tot f.size := by
 refine Tr.loop (wcJ (f := f) Y M D ho mi S W J n iy iw su mo tot) ?_ (m := f.size - 0) ⟨0, ByteArray.empty, rfl, by omega, by rw [ByteArray.empty_append]; exact hw, hk, rfl⟩
 rintro m st ⟨i, s, rfl, hi, hs, hk, rfl⟩
 cases hd : f.data.toList.drop i with
 | nil =>
  have hl : f.size ≤ i := by
   have := congrArg List.length hd
   simp only [List.length_drop, List.length_nil, len_list] at this
   omega
  have hie : i = f.size := by omega
  subst hie
  rw [hd] at hs
  have hs' : s = tot := by rw [← hs]; exact ByteArray.append_empty.symm
  subst hs'
  unfold wcSt
  by_cases h0 : s.size = 0
  ·rw [if_pos h0]
   exact wc0_out Y M D ho mi S W J n iy iw su mo f _ (c1n hl) ⟨rfl, rfl⟩
  ·rw [if_neg h0]
   exact wc1_out Y M D ho mi S W J n iy iw su mo f _ s (c1n hl) ⟨rfl, rfl⟩
 | cons x r =>
  obtain ⟨hx, hr, hlt⟩ := drop_cons hd
  rw [len_list] at hlt
  rw [← at_list] at hx
  rw [hd] at hs hk
  have short : i + 1 = f.size → r = [] := by
   intro h
   have := congrArg List.length hr
   simp only [List.length_drop, len_list] at this
   exact List.eq_nil_of_length_eq_zero (by omega)
  have plain : ∀ (y : UInt8) (q : List UInt8), y ≠ 37 ∨ q = [] → wrL (dirWG Y M D ho mi S W J n iy iw su mo) (y :: q) = ⟨#[y]⟩ ++ wrL (dirWG Y M D ho mi S W J n iy iw su mo) q := by
   intro y q h
   cases q with
   | nil => exact ByteArray.append_empty.symm
   | cons c r2 =>
    have h37 : y ≠ 37 := by
     rcases h with h | h
     ·exact h
     ·cases h
    simp only [wrL, if_neg h37]
  have plainK : ∀ (y : UInt8) (q : List UInt8), y ≠ 37 ∨ q = [] → wrK (dirWH Y M D ho mi S W J n iy iw su mo) (y :: q) = wrK (dirWH Y M D ho mi S W J n iy iw su mo) q := by
   intro y q h
   cases q with
   | nil => rfl
   | cons c r2 =>
    have h37 : y ≠ 37 := by
     rcases h with h | h
     ·exact h
     ·cases h
    simp only [wrK, if_neg h37]
  have next : x ≠ 37 ∨ r = [] → ∃ m', m' < f.size - i ∧ wcJ (f := f) Y M D ho mi S W J n iy iw su mo tot m' (wcSt Y M D ho mi S W J n iy iw su mo f (s ++ ⟨#[x]⟩) (i + 1)) := by
   intro h
   refine ⟨f.size - (i + 1), by omega, i + 1, s ++ ⟨#[x]⟩, rfl, by omega, ?_, by rw [hr, ← plainK x r h]; exact hk, rfl⟩
   rw [hr, ByteArray.append_assoc, ← plain x r h]
   exact hs
  have sz : x ≠ 37 ∨ r = [] → s.size + 1 ≤ 1000000000 := by
   intro h
   rw [plain x r h] at hs
   have := congrArg ByteArray.size hs
   rw [ByteArray.size_append, ByteArray.size_append] at this
   have e : (⟨#[x]⟩ : ByteArray).size = 1 := rfl
   omega
  by_cases h37 : x = 37
  ·subst h37
   by_cases hl : i + 1 = f.size
   ·exact wc_last Y M D ho mi S W J n iy iw su mo hb hl hx (sz (.inr (short hl))) (next (.inr (short hl)))
   ·cases r with
    | nil =>
     have := congrArg List.length hr
     simp only [List.length_drop, List.length_nil, len_list] at this
     omega
    | cons c r2 =>
     obtain ⟨hc, hr2, hlt2⟩ := drop_cons hr
     rw [len_list] at hlt2
     rw [← at_list] at hc
     have hw2 : wrL (dirWG Y M D ho mi S W J n iy iw su mo) (37 :: c :: r2) = dirWG Y M D ho mi S W J n iy iw su mo c ++ wrL (dirWG Y M D ho mi S W J n iy iw su mo) r2 := by simp only [wrL, if_true]
     have hk2 : dirWH Y M D ho mi S W J n iy iw su mo c = true ∧ wrK (dirWH Y M D ho mi S W J n iy iw su mo) r2 = true := by simpa only [wrK, if_true, Bool.and_eq_true] using hk
     rw [hw2] at hs
     have hsz : s.size + (dirWG Y M D ho mi S W J n iy iw su mo c).size ≤ 1000000000 := by
      have := congrArg ByteArray.size hs
      rw [ByteArray.size_append, ByteArray.size_append] at this
      omega
     obtain ⟨k1, k2⟩ := hk2
     unfold dirWG at hsz hs
     unfold dirWH at k1
     cases hin : wcInF c.toNat with
     | true =>
      rw [if_pos hin] at hsz k1
      rw [if_pos hin] at hs
      simp only [Bool.and_eq_true, decide_eq_true_eq] at k1
      refine wc_round Y M D ho mi S W J n iy iw su mo hb hlt2 hx hc (s2 := s ++ wcTF Y M D ho mi S W J n iy iw su mo c.toNat) (j := i + 1) (by omega) (fun Q1 h1 => wc_key Y M D ho mi S W J n iy iw su mo (by omega) hin k1.1 k1.2 hsz Q1 h1) ⟨f.size - (i + 2), by omega, i + 2, _, rfl, by omega, ?_, by rw [hr2]; exact k2, rfl⟩
      rw [hr2, ByteArray.append_assoc]
      exact hs
     | false =>
      have hn : ¬ (wcInF c.toNat = true) := by rw [hin]; simp
      have hc37 : c ≠ 37 := by
       intro h
       subst h
       rw [in37] at hin
       cases hin
      rw [if_neg hn] at hsz k1
      rw [if_neg hn] at hs
      by_cases hz : (longerF c.toNat).size = 0
      ·rw [if_pos hz] at hsz k1
       rw [if_pos hz] at hs
       have e2 : (⟨#[37, c]⟩ : ByteArray) = ⟨#[37]⟩ ++ ⟨#[c]⟩ := by
        apply ByteArray.ext
        simp
       have e3 : (⟨#[37, c]⟩ : ByteArray).size = 2 := rfl
       refine wc_round Y M D ho mi S W J n iy iw su mo hb hlt2 hx hc (s2 := s ++ ⟨#[37]⟩) (j := i) (by omega) (fun Q1 h1 => wc_alone Y M D ho mi S W J n iy iw su mo hin hz (by omega) Q1 h1) ⟨f.size - (i + 1), by omega, i + 1, _, rfl, by omega, ?_, by rw [hr, plainK c r2 (.inl hc37)]; exact k2, rfl⟩
       rw [hr, plain c r2 (.inl hc37), ByteArray.append_assoc]
       rw [e2, ByteArray.append_assoc] at hs
       exact hs
      ·rw [if_neg hz] at hsz k1
       rw [if_neg hz] at hs
       simp only [Bool.and_eq_true, decide_eq_true_eq] at k1
       refine wc_round Y M D ho mi S W J n iy iw su mo hb hlt2 hx hc (s2 := s ++ wrL (dirWF Y M D ho mi S W J n iy iw su mo) (longerF c.toNat).data.toList) (j := i + 1) (by omega) (fun Q1 h1 => wc_lon Y M D ho mi S W J n iy iw su mo (by omega) hz (s ++ wrL (dirWF Y M D ho mi S W J n iy iw su mo) (longerF c.toNat).data.toList) (by rw [ByteArray.size_append]; omega) (by rw [ByteArray.size_append]; omega) rfl k1.1 Q1 h1) ⟨f.size - (i + 2), by omega, i + 2, _, rfl, by omega, ?_, by rw [hr2]; exact k2, rfl⟩
       rw [hr2, ByteArray.append_assoc]
       exact hs
  ·exact wc_plain Y M D ho mi S W J n iy iw su mo hb hlt hx h37 (sz (.inl h37)) (next (.inl h37))
end
end Go.Proofs.YthopphfehgdocaaGreatDoor
