import Derived.Test.YthopphfehgdocaaGreatDoorCards
import Derived.Test.YthopphfehgdocaaGreatDoorTie
import Derived.Test.YthopphfehgdocaaGreatDoorCx
import Derived.Great.CaseRows
import Derived.PinnedBridge
import Derived.Lib.LaidIn
import Derived.Lib.LaidU8
import Derived.LaidLaws
import Derived.Deep.DeepHandedRow
import Derived.Deep.DeepWitnessRowRef
import Derived.ProofKit
import Derived.SizedLaws
set_option linter.unusedSimpArgs false
set_option linter.unusedVariables false
namespace Go.Proofs.YthopphfehgdocaaGreatDoor
open Go Go.Shelf Go.ChangeShapes Go.WideShapes Go.ChangeAt Go.RowKit Go.Lib Go.Great Go.Ev
theorem own : ownKnob Tryz.prog.godebug = none := by kernel_rfl
def litV : Lit → Value
 | .int k n => .int k n
 | _ => .nilIface
def flat : Nat → DataW Unit → List Value
 | 0, _ => []
 | f + 1, d => match d with
  | .lit l => [litV l]
  | .agg ds => ds.flatMap (flat f)
  | .slice ds _ => ds.flatMap (flat f)
  | _ => []
def errText : ByteArray := ⟨#[117, 110, 115, 117, 112, 112, 111, 114, 116, 101, 100, 32, 111, 112, 101, 114, 97, 116, 105, 111, 110]⟩
def orbit : List Value := flat 9 Rows.laid_unicode_caseOrbit
noncomputable def low : Nat := (World.holding Tryz.prog default ⟨#[], #[], []⟩).heap.size
noncomputable def laidWorld (os : Os) : World :=
 let w0 := World.holding Tryz.prog os ⟨#[.cells #[.string errText] 275, .cells orbit.toArray 233, .cells (caseT.flatMap cells5).toArray 247], #[], []⟩
 let put (h : Array Obj) (g : Nat) (cs : Array Value) : Array Obj := h.modify g fun
  | .cells _ t frozen => .cells cs t frozen
  | o => o
 let h := put w0.heap 1 #[.iface 253 (.pointer (some ⟨low, 0, none⟩))]
 let h := put h 2 (flat 9 Rows.laid_internal_strconv_uint64pow10).toArray
 let h := put h 3 (flat 9 Rows.laid_unicode_asciiFold).toArray
 let h := put h 4 #[.slice (some ⟨low + 1, 0, none⟩) (orbit.length / 2) (orbit.length / 2)]
 let h := put h 5 #[.slice (some ⟨low + 2, 0, none⟩) caseT.length caseT.length]
 let h := put h 7 (flat 9 Rows.laid_unicode_utf8_first).toArray
 let h := put h 8 (flat 9 Rows.laid_unicode_utf8_acceptRanges).toArray
 let h := put h 9 (flat 9 Rows.laid_math_bits_deBruijn32tab).toArray
 let h := put h 10 (flat 9 Rows.laid_math_bits_deBruijn64tab).toArray
 { w0 with heap := h }
def list7 : List (String × DataW Unit) := [("math/bits.deBruijn32tab", Rows.laid_math_bits_deBruijn32tab), ("math/bits.deBruijn64tab", Rows.laid_math_bits_deBruijn64tab), ("internal/strconv.uint64pow10", Rows.laid_internal_strconv_uint64pow10), ("unicode/utf8.acceptRanges", Rows.laid_unicode_utf8_acceptRanges), ("errors.ErrUnsupported", Rows.laid_errors_ErrUnsupported), ("unicode.asciiFold", Rows.laid_unicode_asciiFold), ("unicode.caseOrbit", Rows.laid_unicode_caseOrbit)]
def laidList : List (String × DataW Unit) := list7 ++ ([("unicode.CaseRanges", Rows.laid_unicode_CaseRanges)] ++ [("unicode/utf8.first", Rows.laid_unicode_utf8_first)])
theorem cty : CTypes Tryz.prog 236 247 245 210 21 := ⟨by kernel_rfl, by kernel_rfl, by kernel_rfl, by kernel_rfl, by kernel_rfl, by kernel_rfl, by kernel_rfl, by kernel_rfl, by kernel_rfl⟩
set_option maxRecDepth 100000 in
theorem laid_in7 (os : Os) (args : Array Value) : LaidIn Tryz.prog ((laidWorld os).forCall (fun _ _ => 0) ⟨#[], args, []⟩).memory list7 [9, 10, 2, 8, 1, low, 3, 4, low + 1] :=
 LaidIn.of_run [9, 10, 2, 8, 1, low, 3, 4, low + 1] 8 (by kernel_rfl) (by kernel_rfl) (by kernel_rfl) (by kernel_rfl)
theorem laid_in8 (os : Os) (args : Array Value) : LaidIn Tryz.prog ((laidWorld os).forCall (fun _ _ => 0) ⟨#[], args, []⟩).memory [("unicode/utf8.first", Rows.laid_unicode_utf8_first)] [7] :=
 LaidIn.of_run [7] 8 (by kernel_rfl) (by kernel_rfl) (by kernel_rfl) (by kernel_rfl)
theorem laid_inC (os : Os) (args : Array Value) : LaidIn Tryz.prog ((laidWorld os).forCall (fun _ _ => 0) ⟨#[], args, []⟩).memory [("unicode.CaseRanges", Rows.laid_unicode_CaseRanges)] [5, low + 2] := by
 have h := laidIn_case (w := ((laidWorld os).forCall (fun _ _ => 0) ⟨#[], args, []⟩).memory) cty (name := "unicode.CaseRanges") (g := 5) (B := low + 2) (tg := 236) (tb := 247) caseT (by kernel_rfl) (by kernel_rfl) (of_decide_eq_true (by kernel_rfl)) (by kernel_rfl) (by kernel_rfl) (by kernel_rfl) (of_decide_eq_true (by kernel_rfl))
 have e : Rows.laid_unicode_CaseRanges = .slice (caseT.map rowData) [] := Pinned.caseRanges_eq
 rw [e]
 exact h
theorem laid_met (os : Os) (args : Array Value) : laidMet Tryz.prog laidList ((laidWorld os).forCall (fun _ _ => 0) ⟨#[], args, []⟩).memory :=
 ((laid_in7 os args).append ((laid_inC os args).append (laid_in8 os args) (by kernel_rfl)) (by kernel_rfl)).met
end Go.Proofs.YthopphfehgdocaaGreatDoor
