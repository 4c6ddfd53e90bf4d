import Derived.Test.YthopphfehgdocaaGreatDoorProg
import Derived.OpenShut
import Derived.ShutString
import Derived.ChangeMaps5
import Derived.Lib.SmallJoins
import Derived.KernelRfl
set_option linter.unusedSimpArgs false
set_option linter.unusedVariables false
set_option linter.constructorNameAsVariable false
namespace Go.Proofs.YthopphfehgdocaaGreatDoor
open Go Go.ChangeShapes Go.WideShapes Go.ChangeAt Go.RowKit Go.Lib
theorem array8 {α : Type} {cs : Array α} (h : cs.size = 8) : ∃ c0 c1 c2 c3 c4 c5 c6 c7, cs = #[c0, c1, c2, c3, c4, c5, c6, c7] := by
 obtain ⟨l⟩ := cs
 match l, h with
 | [c0, c1, c2, c3, c4, c5, c6, c7], _ => exact ⟨c0, c1, c2, c3, c4, c5, c6, c7, rfl⟩
theorem list8 {α : Type} {l : List α} (h : l.length = 8) : ∃ c0 c1 c2 c3 c4 c5 c6 c7, l = [c0, c1, c2, c3, c4, c5, c6, c7] := by
 match l, h with
 | [c0, c1, c2, c3, c4, c5, c6, c7], _ => exact ⟨c0, c1, c2, c3, c4, c5, c6, c7, rfl⟩
theorem trod_float {H : Type} {enc : TypeId × Value → H} {P : Program} {w : World} {base : Nat} {spare : Nat → Bool} {held : Bool} {fuel : Nat} {t : TypeId} {cs : List Value} {x : DataW H × List MemPlace} {k : FloatKind} (ht : P.underlying t = some (.float k)) (h : DataW.trod enc P w base spare held fuel t cs = some x) : ∃ n, cs = [.float k n] ∧ x = (.lit (.float k n), []) ∧ (Lit.float k n).wf = true := by
 cases fuel with
 | zero => simp [DataW.trod] at h
 | succ n =>
  unfold DataW.trod at h
  rw [ht] at h
  split at h <;> simp_all
theorem one3 : Tryz.prog.cellsOf 3 = 1 := by kernel_rfl
theorem one22 : Tryz.prog.cellsOf 22 = 1 := by kernel_rfl
theorem eight24 : Tryz.prog.cellsOf 24 = 8 := by kernel_rfl
set_option maxRecDepth 100000 in
theorem open_time {H : Type} {enc : TypeId × Value → H} {w : World} {base : Nat} {spare : Nat → Bool} {held : Bool} {r : Reach} {b0 : Nat} {v : Value} {d : DataW H} {p : List MemPlace} (hv : Value.okWide Tryz.prog w r b0 24 v) (h : DataW.Trod enc Tryz.prog w base spare held 24 v d p) :
  ∃ (Y M D ho mi : Int) (S : Nat) (W J : Int), v = .agg #[.int .i64 Y, .int .i64 M, .int .i64 D, .int .i64 ho, .int .i64 mi, .float .f64 S, .int .i64 W, .int .i64 J] ∧ d = .agg [.lit (.int .i64 Y), .lit (.int .i64 M), .lit (.int .i64 D), .lit (.int .i64 ho), .lit (.int .i64 mi), .lit (.float .f64 S), .lit (.int .i64 W), .lit (.int .i64 J)] ∧ p = [] ∧ (Lit.int .i64 Y).wf = true ∧ (Lit.int .i64 M).wf = true ∧ (Lit.int .i64 D).wf = true ∧ (Lit.int .i64 ho).wf = true ∧ (Lit.int .i64 mi).wf = true ∧ (Lit.float .f64 S).wf = true ∧ (Lit.int .i64 W).wf = true ∧ (Lit.int .i64 J).wf = true := by
 obtain ⟨cs, rfl, hsz⟩ := okWide_struct Tryz.underlying24 hv
 rw [eight24] at hsz
 obtain ⟨c0, c1, c2, c3, c4, c5, c6, c7, rfl⟩ := array8 hsz
 obtain ⟨fuel, hf⟩ := h
 obtain ⟨xs, n, _, hx, hl, hlen, hp⟩ := DataW.trod_struct Tryz.underlying24 hf
 obtain ⟨y0, y1, y2, y3, y4, y5, y6, y7, rfl⟩ := list8 hlen
 have g0 : DataW.trod enc Tryz.prog w base spare held n 3 [c0] = some y0 := by simpa [Value.cells, one3, one22] using hp 0 _ rfl
 have g1 : DataW.trod enc Tryz.prog w base spare held n 3 [c1] = some y1 := by simpa [Value.cells, one3, one22] using hp 1 _ rfl
 have g2 : DataW.trod enc Tryz.prog w base spare held n 3 [c2] = some y2 := by simpa [Value.cells, one3, one22] using hp 2 _ rfl
 have g3 : DataW.trod enc Tryz.prog w base spare held n 3 [c3] = some y3 := by simpa [Value.cells, one3, one22] using hp 3 _ rfl
 have g4 : DataW.trod enc Tryz.prog w base spare held n 3 [c4] = some y4 := by simpa [Value.cells, one3, one22] using hp 4 _ rfl
 have g5 : DataW.trod enc Tryz.prog w base spare held n 22 [c5] = some y5 := by simpa [Value.cells, one3, one22] using hp 5 _ rfl
 have g6 : DataW.trod enc Tryz.prog w base spare held n 3 [c6] = some y6 := by simpa [Value.cells, one3, one22] using hp 6 _ rfl
 have g7 : DataW.trod enc Tryz.prog w base spare held n 3 [c7] = some y7 := by simpa [Value.cells, one3, one22] using hp 7 _ rfl
 obtain ⟨z0, e0, rfl, w0⟩ := DataW.trod_int Tryz.underlying3 g0
 obtain ⟨z1, e1, rfl, w1⟩ := DataW.trod_int Tryz.underlying3 g1
 obtain ⟨z2, e2, rfl, w2⟩ := DataW.trod_int Tryz.underlying3 g2
 obtain ⟨z3, e3, rfl, w3⟩ := DataW.trod_int Tryz.underlying3 g3
 obtain ⟨z4, e4, rfl, w4⟩ := DataW.trod_int Tryz.underlying3 g4
 obtain ⟨z5, e5, rfl, w5⟩ := trod_float Tryz.underlying22 g5
 obtain ⟨z6, e6, rfl, w6⟩ := DataW.trod_int Tryz.underlying3 g6
 obtain ⟨z7, e7, rfl, w7⟩ := DataW.trod_int Tryz.underlying3 g7
 simp only [List.cons.injEq, and_true] at e0 e1 e2 e3 e4 e5 e6 e7
 subst e0 e1 e2 e3 e4 e5 e6 e7
 simp only [Prod.mk.injEq] at hx
 exact ⟨z0, z1, z2, z3, z4, z5, z6, z7, rfl, hx.1, by simpa using hx.2, w0, w1, w2, w3, w4, w5, w6, w7⟩
set_option maxRecDepth 100000 in
theorem shut_time {H : Type} {enc : TypeId × Value → H} {w : World} {base : Nat} {spare : Nat → Bool} {held : Bool} {Y M D ho mi : Int} {S : Nat} {W J : Int} (w0 : (Lit.int .i64 Y).wf = true) (w1 : (Lit.int .i64 M).wf = true) (w2 : (Lit.int .i64 D).wf = true) (w3 : (Lit.int .i64 ho).wf = true) (w4 : (Lit.int .i64 mi).wf = true) (w5 : (Lit.float .f64 S).wf = true) (w6 : (Lit.int .i64 W).wf = true) (w7 : (Lit.int .i64 J).wf = true) : DataW.Trod enc Tryz.prog w base spare held 24 (.agg #[.int .i64 Y, .int .i64 M, .int .i64 D, .int .i64 ho, .int .i64 mi, .float .f64 S, .int .i64 W, .int .i64 J]) (.agg [.lit (.int .i64 Y), .lit (.int .i64 M), .lit (.int .i64 D), .lit (.int .i64 ho), .lit (.int .i64 mi), .lit (.float .f64 S), .lit (.int .i64 W), .lit (.int .i64 J)]) [] := by
 have g0 : DataW.trod enc Tryz.prog w base spare held 1 3 [.int .i64 Y] = some (.lit (.int .i64 Y), []) := by simp [DataW.trod, Tryz.underlying3, Tryz.underlying22, w0]
 have g1 : DataW.trod enc Tryz.prog w base spare held 1 3 [.int .i64 M] = some (.lit (.int .i64 M), []) := by simp [DataW.trod, Tryz.underlying3, Tryz.underlying22, w1]
 have g2 : DataW.trod enc Tryz.prog w base spare held 1 3 [.int .i64 D] = some (.lit (.int .i64 D), []) := by simp [DataW.trod, Tryz.underlying3, Tryz.underlying22, w2]
 have g3 : DataW.trod enc Tryz.prog w base spare held 1 3 [.int .i64 ho] = some (.lit (.int .i64 ho), []) := by simp [DataW.trod, Tryz.underlying3, Tryz.underlying22, w3]
 have g4 : DataW.trod enc Tryz.prog w base spare held 1 3 [.int .i64 mi] = some (.lit (.int .i64 mi), []) := by simp [DataW.trod, Tryz.underlying3, Tryz.underlying22, w4]
 have g5 : DataW.trod enc Tryz.prog w base spare held 1 22 [.float .f64 S] = some (.lit (.float .f64 S), []) := by simp [DataW.trod, Tryz.underlying3, Tryz.underlying22, w5]
 have g6 : DataW.trod enc Tryz.prog w base spare held 1 3 [.int .i64 W] = some (.lit (.int .i64 W), []) := by simp [DataW.trod, Tryz.underlying3, Tryz.underlying22, w6]
 have g7 : DataW.trod enc Tryz.prog w base spare held 1 3 [.int .i64 J] = some (.lit (.int .i64 J), []) := by simp [DataW.trod, Tryz.underlying3, Tryz.underlying22, w7]
 have := trod_struct_mk (enc := enc) (w := w) (base := base) (spare := spare) (held := held) (n := 1) (cs := [.int .i64 Y, .int .i64 M, .int .i64 D, .int .i64 ho, .int .i64 mi, .float .f64 S, .int .i64 W, .int .i64 J]) (xs := [(.lit (.int .i64 Y), []), (.lit (.int .i64 M), []), (.lit (.int .i64 D), []), (.lit (.int .i64 ho), []), (.lit (.int .i64 mi), []), (.lit (.float .f64 S), []), (.lit (.int .i64 W), []), (.lit (.int .i64 J), [])]) Tryz.underlying24 (by rw [eight24]; rfl) (by simp [one3, one22, g0, g1, g2, g3, g4, g5, g6, g7])
 exact ⟨2, by simpa [Value.cells] using this⟩
end Go.Proofs.YthopphfehgdocaaGreatDoor
