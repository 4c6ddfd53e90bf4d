/- The walk of the law about a text and its code points, where all that it asks is so. -/
import Derived.Test.YtfnipedeldhmgaaDoorPx5
import Derived.Test.YtfnipedeldhmgaaDoorPure4
import Derived.Deep.RegionWith
import Derived.BigRegion
import Derived.Deep.CutBlock
namespace Go.Proofs.YtfnipedeldhmgaaDoor
open Go.RowKit Go.Proofs.YtfnipedeldhmgaaDoorW.PrintWords Go.Proofs.YtfnipedeldhmgaaDoorW.PrintLast Go.Proofs.YtfnipedeldhmgaaDoorW.PrintMore
open Go.Proofs.YtfnipedeldhmgaaDoor.P
set_option linter.unusedVariables false
set_option linter.unusedSimpArgs false

theorem clean_conv (w : World) (s r : ByteArray) (hs : s.size ≤ 140737488355328) (h : runes_Clean.f (bytesOf s) = some r) :
    Calls Tryd.prog 25 #[.slice (some ⟨w.heap.size, 0, none⟩) s.size (grownCap w s.size 0 5)] (Lib.bytesWorld w 5 s) fun e w' => e = .returned (.string r) ∧ Below (Lib.bytesWorld w 5 s).heap.size (Lib.bytesWorld w 5 s) w' := by
  have hl := bytesOf_len s
  have hr := (Row.new w s).read (by omega)
  have hc : s.size ≤ grownCap w s.size 0 5 := grownCap_ge _ _ _ _
  generalize grownCap w s.size 0 5 = c at hc ⊢
  rw [← hl] at hr hc
  have := runes_Clean.calls (some ⟨w.heap.size, 0, none⟩) c (bytesOf s) r (Lib.bytesWorld w 5 s) hr hc h
  rw [hl] at this
  exact this

set_option maxHeartbeats 8000000 in
set_option maxRecDepth 100000 in
theorem back_walk (k : Nat) (A0 : Option Addr) (c0 : Nat) (l0 : List Int) (a1 : Int) (s x y : ByteArray) (l : List Int) (w : World) (hT : Tabs w)
    (hr0 : Kd.C (Kd.int .u8) w A0 l0.length l0) (hc0 : l0.length ≤ c0) (hs : s.size ≤ 140737488355328)
    (hC : runes_Clean.f l0 = some s) (hV : runes_Valid.f s = some true) (hC2 : runes_Clean.f (bytesOf s) = some s) (hV2 : runes_Valid.f (strOfNums l0) = some (s.toList == (strOfNums l0).toList))
    (hP : runes_Points.f s = some l) (hO : runes_Of.f l = some (s, 0)) (hN : runes_Count.f s = some (l.length : Int)) (hS1 : runes_Slice.f k s 0 a1 = some x) (hS2 : runes_Slice.f k s (max 0 a1) (l.length : Int) = some y)
    (hxy : (x ++ y).toList = s.toList) (hz : x.size + y.size ≤ 9223372036854775807) (hH : colanderlaw01_heads.f k = some true) :
    Calls Tryd.prog 7 #[.slice A0 l0.length c0, .int .i64 a1] w fun e w' => e = .returned (.bool true) ∧ Below w.heap.size w w' := by
  have HR0 := Aside0.mk hr0
  have HT := Aside0.mk hT
  have HC := Aside0.mk hC
  have HC2 := Aside0.mk hC2
  have HV := Aside0.mk hV
  have HV2 := Aside0.mk hV2
  have HP := Aside0.mk hP
  have HO := Aside0.mk hO
  have HN := Aside0.mk hN
  have HS1 := Aside0.mk hS1
  have HS2 := Aside0.mk hS2
  have HXY := Aside0.mk hxy
  have HH := Aside0.mk hH
  clear hr0 hT hC hC2 hV hV2 hP hO hN hS1 hS2 hxy hH
  go_enter Tryd.func7, Tryd.ntmps7
  go_upto_region 2 with (first | (go_at_call 25; refine (runes_Clean.calls A0 c0 l0 s _ HR0.out hc0 HC.out).mono ?_; rintro e w1 ⟨rfl, hb1⟩))
  have HB1 := Aside0.mk hb1
  clear hb1
  go_cut [31] (fun v31 wc => v31 = .bool false ∧ Aside0 (Below w.heap.size w wc))
  case first =>
    have hconv : ∀ (W : World) (t : ByteArray), (convert 9 40 (.string t)).run Tryd.prog W = .ok (.slice (some ⟨W.heap.size, 0, none⟩) t.size (grownCap W t.size 0 5)) (Lib.bytesWorld W 5 t) := run_conv_bytes
    have hback : ∀ W : World, Kd.C (Kd.int .u8) W A0 l0.length l0 → (convert 40 9 (.slice A0 l0.length c0)).run Tryd.prog W = .ok (.string (strOfNums l0)) W := fun W h => Kd.C_string Tryd.underlying40 Tryd.underlying5 Tryd.underlying9 h
    have HBd := Aside0.mk (show Below w.heap.size w w1.drew from below_drew1 HB1.out)
    go_region_with (first
      | (go_at_call 27; (with_reducible refine Calls.mono (runes_Valid.calls s true _ ?_ HV.out) ?_); (exact HT.out.of_below HBd.out); rintro e w2 ⟨rfl, hb2⟩; have HB2 := Aside0.mk (below_step HBd.out hb2); have HBc := Aside0.mk (below_step HB2.out (bytesWorld_below w2 s)); clear hb2)
      | (go_at_call 25; (with_reducible refine Calls.mono (clean_conv w2 s s hs HC2.out) ?_); rintro e w3 ⟨rfl, hb3⟩; have HB3 := Aside0.mk (below_step HBc.out hb3); have hk3 := Kd.C_below HR0.out HB3.out; clear hb3)
      | (go_at_call 27; (with_reducible refine Calls.mono (runes_Valid.calls (strOfNums l0) _ _ ?_ HV2.out) ?_); (exact HT.out.of_below HB3.out); rintro e w4 ⟨rfl, hb4⟩; have HB4 := Aside0.mk (below_step HB3.out hb4); have hk4 := Kd.C_below HR0.out HB4.out; clear hb4))
    all_goals (go_wp2_with (fail); go_meet; first | exact ⟨rfl, HB4⟩ | (case rel => exact ⟨rfl, HB4⟩))
  case rest =>
    obtain ⟨rfl, HB⟩ := hcut
    clear HB1 HV HV2 HC HC2
    go_upto_region 7 with (first
      | (go_at_call 31; (with_reducible refine Calls.mono (runes_Points.calls s l _ HP.out) ?_); rintro e w2 ⟨v0, rfl, ho2, hb2⟩; obtain ⟨A1, c1, rfl, hle1, hrd1⟩ := Kd.R_reads ho2; have HL1 := Aside0.mk hle1; have HD1 := Aside0.mk hrd1; have HB2 := Aside0.mk (below_step HB.out hb2); clear hb2 ho2 hle1 hrd1)
      | (go_at_call 23; (with_reducible refine Calls.mono (runes_Of.calls A1 c1 l s 0 _ HD1.out HL1.out HO.out) ?_); rintro e w3 ⟨rfl, hb3⟩; have HB3 := Aside0.mk (below_step HB2.out hb3); clear hb3)
      | (go_at_call 29; (with_reducible refine Calls.mono (runes_Count.calls s (l.length : Int) _ HN.out) ?_); rintro e w4 ⟨rfl, hb4⟩; have HB4 := Aside0.mk (below_step HB3.out hb4); clear hb4))
    have hxy := HXY.out
    go_wp2_with (first
      | (go_at_call 8; (with_reducible refine Calls.mono (runes_Slice.calls k s 0 a1 x _ HS1.out) ?_); rintro e w5 ⟨rfl, hb5⟩; have HB5 := Aside0.mk (below_step HB4.out hb5); clear hb5)
      | (go_at_call 8; (with_reducible refine Calls.mono (runes_Slice.calls k s (max 0 a1) (l.length : Int) y _ HS2.out) ?_); rintro e w6 ⟨rfl, hb6⟩; have HB6 := Aside0.mk (below_step HB5.out hb6); clear hb6)
      | (go_at_call 16; (with_reducible refine Calls.mono (colanderlaw01_heads.calls k true _ ?_ HH.out) ?_); (exact HT.out.of_below HB6.out); rintro e w7 ⟨rfl, hb7⟩; have HB7 := Aside0.mk (below_step HB6.out hb7); clear hb7))
    go_ret
    exact ⟨rfl, HB7.out⟩

def BackOk (k : Nat) (l0 : List Int) (a1 : Int) : Prop := colanderlaw01_heads.f k = some true ∧ 1 ≤ k ∧ l0.length ≤ 1048576 ∧ isInt a1
theorem RunesBack_pure (l0 : List Int) (a1 : Int) (h0 : l0.length ≤ 1048576) (h1 : isInt a1) : ∃ k, BackOk k l0 a1 := ⟨60, heads_all 60 (by omega), by omega, h0, h1⟩
theorem RunesBack_calls (k : Nat) (A0 : Option Addr) (c0 : Nat) (l0 : List Int) (a1 : Int) (_r : Bool) (w : World) (hr0 : Kd.C (Kd.int .u8) w A0 l0.length l0) (hc0 : l0.length ≤ c0) (hT : Tabs w) (h : BackOk k l0 a1) :
    Calls Tryd.prog 7 #[.slice A0 l0.length c0, .int .i64 a1] w fun e w' => e = .returned (.bool true) ∧ Below w.heap.size w w' := by
  obtain ⟨hH, hk, hl, ha⟩ := h
  have hz := cleaned_size l0
  have hsl : (S (cleaned l0)).length ≤ (cleaned l0).size - 0 := segs_len (cleaned l0) (cleaned l0).size 0
  have hlen : ((segs (cleaned l0) (cleaned l0).size 0).map fun p => (p.2 : Int)).length = (S (cleaned l0)).length := List.length_map _
  have hj := sl_join (cleaned l0) a1
  have hjz : (sl (cleaned l0) 0 a1).size + (sl (cleaned l0) (max 0 a1) ((S (cleaned l0)).length : Int)).size = (cleaned l0).size := by
    have := congrArg ByteArray.size hj
    rwa [ByteArray.size_append] at this
  refine back_walk k A0 c0 l0 a1 (cleaned l0) (sl (cleaned l0) 0 a1) (sl (cleaned l0) (max 0 a1) ((S (cleaned l0)).length : Int)) ((segs (cleaned l0) (cleaned l0).size 0).map fun p => (p.2 : Int)) w hT hr0 hc0 (by omega) (our_Clean_f l0 (by omega)) ?_ (back_clean l0 (by omega)) (back_valid l0 (by omega)) (our_Points_f _ (by omega)) (back_of l0 (by omega)) ?_ (our_Slice _ 0 a1 (by omega) ⟨by omega, by omega⟩ ha k hk) ?_ ?_ (by omega) hH
  · rw [our_Valid_f _ (by omega), cleaned_valid]
  · rw [our_Count_f _ (by omega), hlen]
  · rw [hlen]
    obtain ⟨a, b⟩ := ha
    exact our_Slice (cleaned l0) (max 0 a1) ((S (cleaned l0)).length : Int) (by omega) ⟨by omega, by omega⟩ ⟨by omega, by omega⟩ k hk
  · rw [hj]
end Go.Proofs.YtfnipedeldhmgaaDoor
