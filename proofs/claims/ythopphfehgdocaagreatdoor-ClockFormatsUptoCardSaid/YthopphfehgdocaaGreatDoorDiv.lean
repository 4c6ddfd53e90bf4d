import Derived.Test.YthopphfehgdocaaGreatDoorGen8
import Derived.Test.YthopphfehgdocaaGreatDoorStart
import Derived.Test.YthopphfehgdocaaGreatDoorClk2
import Derived.Laws.BitsLemmas
set_option linter.unusedSimpArgs false
set_option linter.unusedVariables false
namespace Go.Ev
def bitsN : Nat → Nat → List Bool
 | 0, _ => []
 | k + 1, n => Nat.beq (Nat.mod n 2) 1 :: bitsN k (Nat.div n 2)
theorem bT {x : Bool} (h : x = true) : (x == true) = true := by rw [h]; rfl
theorem aO {a b : Bool} (h : (a && b) = true) : a = true ∧ b = true := by rwa [Bool.and_eq_true] at h
theorem nO {a b : Bool} (h : (!a && b) = true) : a = false ∧ b = true := by rwa [Bool.and_eq_true, Bool.not_eq_true'] at h
def tmA (Y M D ho mi : Int) (S : Nat) (W J : Int) : Value := .agg #[.int .i64 Y, .int .i64 M, .int .i64 D, .int .i64 ho, .int .i64 mi, .float .f64 S, .int .i64 W, .int .i64 J]
def moA (Y M D ho mi : Int) (S : Nat) (W J sec iy iw sn mn : Int) : Value := .agg #[.int .i64 Y, .int .i64 M, .int .i64 D, .int .i64 ho, .int .i64 mi, .float .f64 S, .int .i64 W, .int .i64 J, .int .i64 sec, .int .i64 iy, .int .i64 iw, .int .i64 sn, .int .i64 mn]
theorem bF {x : Bool} (h : x = false) : (x == false) = true := by rw [h]; rfl
end Go.Ev
namespace Go.Proofs.YthopphfehgdocaaGreatDoor
open Go.RowKit Go.Ev Go.Proofs Go.Shelf
def ext (f : FuncId) (args : Array Value) : Option (Value × Bool) := match args.toList with
 | [.float .f64 x] => match Nat.beq f 153 with
  | true => some (.float .f64 (fround .down x), froundOk x)
  | false => match Nat.beq f 226 with
   | true => some (.float .f64 (fround .zero x), froundOk x)
   | false => none
 | _ => none
noncomputable def hk : Hook := hook cx0 ext
end Go.Proofs.YthopphfehgdocaaGreatDoor
namespace Go.Proofs.YthopphfehgdocaaGreatDoor
open Go.RowKit Go.Ev Go.Proofs Go.Shelf
theorem div_neg (n b : Int) (H : Hp) (nx : Nat) : (evFuncO cx0 hk 30 56 #[.int .i64 n, .int .i64 b] H nx [true]).map (fun r => (r.1, r.2.1, r.2.2.1, bools r.2.2.2.2)) =
  some (.tuple #[.int .i64 (IntKind.i64.wrap (IntKind.i64.wrap (n.tdiv b) - 1)), .int .i64 (IntKind.i64.wrap (n.tmod b + b))], H, nx + 19, (!(b == 0) && (!(b == 0) && ((decide (n.tmod b < 0) == true) && true)))) := by kernel_rfl
theorem div_pos (n b : Int) (H : Hp) (nx : Nat) : (evFuncO cx0 hk 30 56 #[.int .i64 n, .int .i64 b] H nx [false]).map (fun r => (r.1, r.2.1, r.2.2.1, bools r.2.2.2.2)) =
  some (.tuple #[.int .i64 (IntKind.i64.wrap (n.tdiv b)), .int .i64 (n.tmod b)], H, nx + 16, (!(b == 0) && (!(b == 0) && ((decide (n.tmod b < 0) == false) && true)))) := by kernel_rfl
theorem wrap_wrap_sub (x : Int) : IntKind.i64.wrap (IntKind.i64.wrap x - 1) = IntKind.i64.wrap (x - 1) := by rw [IntKind.wrap_i64, IntKind.wrap_i64, IntKind.wrap_i64]; omega
theorem wrap_id (x : Int) (h0 : -9223372036854775808 ≤ x) (h1 : x ≤ 9223372036854775807) : IntKind.i64.wrap x = x := by rw [IntKind.wrap_i64]; omega
theorem cx0_intr : IntrOk { cx0 with intr := fun _ => none } where
 sound f g h := by cases h
 mono f g h := by cases h
theorem ext_153 (x : Nat) (h : froundOk x = true) : pureRun Tryz.prog (callFunc 153 #[.float .f64 x]) = some (.value (.float .f64 (fround .down x))) := by
 have e : pureRun Tryz.prog (callFunc 153 #[.float .f64 x]) = pureRun Tryz.prog (do pure (Next.value (← Extern.MathFloor.toIntegral "math.archFloor" .down #[.float .f64 x]))) := by kernel_rfl
 rw [e]
 unfold froundOk at h
 show pureRun Tryz.prog (Sem.bind (match FloatKind.f64.decode x with | .nan s t => _ | d => _) _) = _
 unfold fround
 cases hd : FloatKind.f64.decode x with
 | nan s t => rw [hd] at h; cases h
 | infinity s => rfl
 | number s m e => rfl
theorem ext_226 (x : Nat) (h : froundOk x = true) : pureRun Tryz.prog (callFunc 226 #[.float .f64 x]) = some (.value (.float .f64 (fround .zero x))) := by
 have e : pureRun Tryz.prog (callFunc 226 #[.float .f64 x]) = pureRun Tryz.prog (do pure (Next.value (← Extern.MathFloor.toIntegral "math.archTrunc" .zero #[.float .f64 x]))) := by kernel_rfl
 rw [e]
 unfold froundOk at h
 show pureRun Tryz.prog (Sem.bind (match FloatKind.f64.decode x with | .nan s t => _ | d => _) _) = _
 unfold fround
 cases hd : FloatKind.f64.decode x with
 | nan s t => rw [hd] at h; cases h
 | infinity s => rfl
 | number s m e => rfl
theorem ext_ok (i : Intr) : ExtOk { cx0 with intr := i } ext := by
 intro k args v h
 unfold ext at h
 split at h
 ·rename_i x hx
  have ha : args = #[.float .f64 x] := by cases args; simp at hx; subst hx; rfl
  subst ha
  split at h
  ·rename_i hk
   have hk := Nat.eq_of_beq_eq_true hk
   subst hk
   simp only [Option.some.injEq, Prod.mk.injEq] at h
   obtain ⟨rfl, h2⟩ := h
   exact ⟨rfl, rfl, fun H => by kernel_rfl, ext_153 x h2⟩
  ·split at h
   ·rename_i hk
    have hk := Nat.eq_of_beq_eq_true hk
    subst hk
    simp only [Option.some.injEq, Prod.mk.injEq] at h
    obtain ⟨rfl, h2⟩ := h
    exact ⟨rfl, rfl, fun H => by kernel_rfl, ext_226 x h2⟩
   ·cases h
 ·cases h
theorem hk_eq (i : Intr) (A : FuncId → Option (Array Value → Hp → Nat → Option (Value × Hp × Nat × Bool))) : hook { cx0 with intr := i, asrt := A } ext = hk := by kernel_rfl
theorem hk_ok (i : Intr) : HookOk { cx0 with intr := i } hk := hk_eq i cx0.asrt ▸ hook_ok (cx := { cx0 with intr := i }) (cx_ok i) (ext_ok i) (fun f a args H nx v H' nx' h => by cases h)
def divP (args : Array Value) : Option Value := match args.toList with
 | [.int .i64 n, .int .i64 b] => match decide (0 < b) && decide (b ≤ 4611686018427387904) with
  | true => some (.tuple #[.int .i64 (IntKind.i64.wrap (n / b)), .int .i64 (n % b)])
  | false => none
 | _ => none
theorem div_ev {args : Array Value} {v : Value} (h : divP args = some v) (H : Hp) (nx : Nat) : ∃ n k, evFunc { cx0 with intr := fun _ => none } n 56 args H nx = some (v, H, nx + k) ∧ k ≤ 19 := by
 unfold divP at h
 split at h
 ·rename_i n b hx
  have ha : args = #[.int .i64 n, .int .i64 b] := by cases args; simp at hx; subst hx; rfl
  subst ha
  split at h
  ·rename_i hb
   cases h
   simp only [Bool.and_eq_true, decide_eq_true_eq] at hb
   have hb0 : (b == 0) = false := by simp; omega
   have e := Clk.divide_eq n b hb.1
   have hlt : n % b < b := Int.emod_lt_of_pos n hb.1
   have hge : 0 ≤ n % b := Int.emod_nonneg n (by omega)
   by_cases hr : n.tmod b < 0
   ·rw [if_pos hr] at e
    simp only [Prod.mk.injEq] at e
    have := orc_run (hk_ok (fun _ => none)) (div_neg n b H nx) (by kernel_rfl) (by simp [hb0, hr])
    refine ⟨30, 19, ?_, Nat.le_refl _⟩
    rw [wrap_wrap_sub, e.1, e.2, wrap_id (n % b) (by omega) (by omega)] at this
    exact this
   ·rw [if_neg hr] at e
    simp only [Prod.mk.injEq] at e
    have := orc_run (hk_ok (fun _ => none)) (div_pos n b H nx) (by kernel_rfl) (by simp [hb0, hr])
    refine ⟨30, 16, ?_, by omega⟩
    rw [e.1, e.2] at this
    exact this
  ·cases h
 ·cases h
end Go.Proofs.YthopphfehgdocaaGreatDoor
