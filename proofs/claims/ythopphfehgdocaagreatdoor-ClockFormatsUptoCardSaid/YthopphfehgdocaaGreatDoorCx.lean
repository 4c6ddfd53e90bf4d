import Derived.Test.YthopphfehgdocaaGreatDoorGen7
import Derived.Test.YthopphfehgdocaaGreatDoorTabs
import Derived.Test.YthopphfehgdocaaGreatDoorLibB
import Derived.Test.YthopphfehgdocaaGreatDoorChecked
set_option linter.unusedSimpArgs false
set_option linter.unusedVariables false
namespace Go.Proofs.YthopphfehgdocaaGreatDoor
open Go.RowKit Go.Ev Go.Proofs Go.Shelf
def bl_ren : Go.Shelf.Ren := ⟨fun | 169 => 36 | 240 => 167 | 276 => 205 | n => n, fun | 3 => 3 | 4 => 4 | 5 => 5 | 9 => 9 | 20 => 20 | 37 => 66 | 70 => 65 | 72 => 68 | 127 => 134 | 164 => 194 | n => n, fun n => n⟩
theorem bl_n240 : Go.Proofs.Lays.n240 Tryz.prog bl_ren := {
 mixed := by kernel_rfl
 f240 := Tryz.func167.trans (congrArg some (by kernel_rfl))
 f276 := Tryz.func205.trans (congrArg some (by kernel_rfl))
 t0 := Tryz.underlying0
 a0 := Tryz.isAgg0
 z0 := Tryz.sizeOf0
 v0 := Tryz.zeroValue0
 t4 := Tryz.underlying4
 a4 := Tryz.isAgg4
 z4 := Tryz.sizeOf4
 v4 := Tryz.zeroValue4
 t9 := Tryz.underlying9
 a9 := Tryz.isAgg9
 z9 := Tryz.sizeOf9
 v9 := Tryz.zeroValue9
 t20 := Tryz.underlying20
 a20 := Tryz.isAgg20
 z20 := Tryz.sizeOf20
 v20 := Tryz.zeroValue20
 t70 := Tryz.underlying65
 a70 := Tryz.isAgg65
 z70 := Tryz.sizeOf65
 v70 := Tryz.zeroValue65
 t72 := Tryz.underlying68
 a72 := Tryz.isAgg68
 z72 := Tryz.sizeOf68
 v72 := Tryz.zeroValue68
 t164 := Tryz.underlying194
 a164 := Tryz.isAgg194
 z164 := Tryz.sizeOf194
 v164 := Tryz.zeroValue194 }
theorem bl_n169 : Go.Proofs.Lays.n169 Tryz.prog bl_ren := {
 mixed := by kernel_rfl
 f169 := Tryz.func36.trans (congrArg some (by kernel_rfl))
 t0 := Tryz.underlying0
 a0 := Tryz.isAgg0
 z0 := Tryz.sizeOf0
 v0 := Tryz.zeroValue0
 t3 := Tryz.underlying3
 a3 := Tryz.isAgg3
 z3 := Tryz.sizeOf3
 v3 := Tryz.zeroValue3
 t9 := Tryz.underlying9
 a9 := Tryz.isAgg9
 z9 := Tryz.sizeOf9
 v9 := Tryz.zeroValue9
 t37 := Tryz.underlying66
 a37 := Tryz.isAgg66
 z37 := Tryz.sizeOf66
 v37 := Tryz.zeroValue66
 t70 := Tryz.underlying65
 a70 := Tryz.isAgg65
 z70 := Tryz.sizeOf65
 v70 := Tryz.zeroValue65
 t72 := Tryz.underlying68
 a72 := Tryz.isAgg68
 z72 := Tryz.sizeOf68
 v72 := Tryz.zeroValue68
 t127 := Tryz.underlying134
 a127 := Tryz.isAgg134
 z127 := Tryz.sizeOf134
 v127 := Tryz.zeroValue134 }
theorem bl_extra : Builder.Extra Tryz.prog bl_ren := {
 sizeBuilder := by kernel_rfl
 liesBuilder := by kernel_rfl
 t5 := Tryz.underlying5
 a5 := Tryz.isAgg5
 z5 := Tryz.sizeOf5
 v5 := Tryz.zeroValue5
 infoByte := by kernel_rfl
 cellsByte := by kernel_rfl
 sizeByte := by kernel_rfl
 neB5 := by decide }
def pow10s : List Value := (List.range 20).map fun i => .int .u64 (10 ^ i)
structure Known (w : World) (a : Addr) : Prop where
 err : w.cell? ⟨1, 0, none⟩ = some (.iface 253 (.pointer (some a)))
 spot : a.spot = none
 there : a.block < w.heap.size
 pow : ∀ i v, pow10s[i]? = some v → w.cell? ⟨2, i, none⟩ = some v
 size : 11 ≤ w.heap.size
 tab : Lib.TabIs Tryz.prog w "internal/strconv.uint64pow10" .u64 Lib.pow10Tab
theorem powNamed : Tryz.prog.globalNamed "internal/strconv.uint64pow10" = some 2 := by kernel_rfl
theorem Known.below {B : Nat} {w w' : World} {a : Addr} (k : Known w a) (hB : 11 ≤ B) (ha : a.block < B) (h : Below B w w') : Known w' a where
 err := by rw [h.cell (by show 1 < B; omega)]; exact k.err
 spot := k.spot
 there := Nat.lt_of_lt_of_le k.there h.size
 pow i v hv := by rw [h.cell (by show 2 < B; omega)]; exact k.pow i v hv
 size := Nat.le_trans k.size h.size
 tab := by
  have := k.tab
  unfold Lib.TabIs World.var? at this ⊢
  rw [powNamed] at this ⊢
  simp only [Option.bind_some] at this ⊢
  rw [h.block 2 (by omega)]
  exact this
def KnownW (B : Nat) (w : World) : Prop := 11 ≤ B ∧ ∃ a : Addr, a.block < B ∧ Known w a
noncomputable def cx0 : Cx where
 P := Tryz.prog
 lo := 12
 ng := 11
 info := fun t => infoT.get t
 body := fun f => bodyT.get f
 intr := fun _ => none
 Wp := KnownW
noncomputable def bIntr : FuncId → Option (Array Value → Hp → Nat → Option (Value × Hp × Nat)) :=
 fun f => if f = 167 then some (ccI cx0 68) else if f = 36 then some (strI cx0 68 5) else none
noncomputable def cxS : Cx := { cx0 with intr := bIntr }
theorem cx_ok (i : FuncId → Option (Array Value → Hp → Nat → Option (Value × Hp × Nat))) : CxOk { cx0 with intr := i } where
 info t i h := by have := infoAll.get t i h; rw [Nat.one_mul, Nat.add_zero] at this; exact this
 body f fn h := by have := bodyAll.get f fn h; rw [Nat.one_mul, Nat.add_zero] at this; exact this
 mixed := by kernel_rfl
 name f fn h := by have := tall_get namesOk f fn h; simpa [nameOk] using this
 zero t i z h hz := by have := tall_get zerosOk t i h; simpa [zeroOk, hz] using this
 wp B w w' h k := by
  obtain ⟨k1, a, k2, k3⟩ := k
  exact ⟨k1, a, k2, k3.below k1 k2 h⟩
theorem bIntr_some {f : FuncId} {g : Array Value → Hp → Nat → Option (Value × Hp × Nat)} (h : bIntr f = some g) : (f = 167 ∧ g = ccI cx0 68) ∨ (f = 36 ∧ g = strI cx0 68 5) := by
 unfold bIntr at h
 split at h
 ·rename_i hf; cases h; exact .inl ⟨hf, rfl⟩
 ·split at h
  ·rename_i hf; cases h; exact .inr ⟨hf, rfl⟩
  ·cases h
theorem cxS_intr : IntrOk cxS where
 sound f g h := by
  rcases bIntr_some (show bIntr f = some g from h) with ⟨rfl, rfl⟩ | ⟨rfl, rfl⟩
  ·exact ccI_sound (ρ := bl_ren) cx0 bIntr bl_n240 bl_extra.toX72
  ·exact strI_sound (ρ := bl_ren) cx0 bIntr bl_n169 bl_extra
 mono f g h := by
  rcases bIntr_some (show bIntr f = some g from h) with ⟨rfl, rfl⟩ | ⟨rfl, rfl⟩
  ·exact ccI_mono _ _ _
  ·exact strI_mono _ _ _ _
noncomputable def errCell : Value := .iface 253 (.pointer (some ⟨11, 0, none⟩))
noncomputable def H0 : Hp := (T.nil.set 1 (mkCells 1 20 1 true [errCell])).set 2 (mkCells 2 0 1 true pow10s)
noncomputable def headsB (n : Nat) : Bool := match evFunc cxS n 12 #[] H0 12 with
 | some (.bool true, _, _) => true
 | _ => false
end Go.Proofs.YthopphfehgdocaaGreatDoor
