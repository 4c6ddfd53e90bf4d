import Derived.Test.YthopphfehgdocaaGreatDoorBase
import Derived.Lib.LaidTab
set_option linter.unusedSimpArgs false
set_option linter.unusedVariables false
namespace Go.Proofs.YthopphfehgdocaaGreatDoor
open Go Go.Shelf Go.ChangeShapes Go.WideShapes Go.ChangeAt Go.RowKit Go.Lib Go.Great Go.Ev
theorem laidVars_places {P : Program} {w : World} : ∀ {l : List (String × DataW Unit)} {ps : List MemPlace}, DataW.LaidVars P w l ps → ∀ n d, (n, d) ∈ l →
  ∃ g t cs fuel p, P.globalNamed n = some g ∧ (P.globals[g]?).map (·.type) = some t ∧ w.var? P n = some cs ∧ DataW.trod (fun _ => ()) P w 0 (fun _ => true) false fuel t cs.toList = some (d, p) ∧ ∀ x ∈ MemPlace.row ⟨g, 0, none⟩ cs.size ++ p, x ∈ ps
 | [], _, _, _, _, hm => by cases hm
 | (n', d') :: r, ps, h, n, d, hm => by
  obtain ⟨g, t, cs, fuel, p, q, h1, h2, h3, h4, h5, h6⟩ := h
  rcases List.mem_cons.1 hm with e | e
  ·cases e
   exact ⟨g, t, cs, fuel, p, h1, h2, h3, h4, fun x hx => by rw [h6]; exact List.mem_append_left _ hx⟩
  ·obtain ⟨g', t', cs', f', p', k1, k2, k3, k4, k5⟩ := laidVars_places h5 n d e
   exact ⟨g', t', cs', f', p', k1, k2, k3, k4, fun x hx => by rw [h6]; exact List.mem_append_right _ (k5 x hx)⟩
theorem errNamed : Tryz.prog.globalNamed "errors.ErrUnsupported" = some 1 := by kernel_rfl
theorem errType : (Tryz.prog.globals[1]?).map (·.type) = some 83 := by kernel_rfl
theorem powType : (Tryz.prog.globals[2]?).map (·.type) = some 225 := by kernel_rfl
theorem star : "*" ++ "errors.errorString" = "*errors.errorString" := by decide
theorem row253 (u : TypeId) (h : Tryz.prog.typeName? 3 u = some "*errors.errorString") : u = 253 :=
 typeName_ptr_named (nm := "errors.errorString") (by rw [star]; kernel_rfl) (by kernel_rfl) (by decide) u (by rw [star]; exact h)
theorem ints_of_array {P : Program} {w : World} {fuel : Nat} {t e : TypeId} {n : Nat} {k : IntKind} {cs : List Value} {zs : List Int} {p : List MemPlace} (ht : P.underlying t = some (.array n e)) (he : P.underlying e = some (.int k)) (hc : P.cellsOf e = 1)
  (h : DataW.trod (fun _ => ()) P w 0 (fun _ => true) false fuel t cs = some (.agg (zs.map fun z => .lit (.int k z)), p)) (i : Nat) (hi : i < n) (z : Int) (hz : zs[i]? = some z) : cs[i]? = some (.int k z) := by
 obtain ⟨f', d, q, h1, h2⟩ := array_elem ht h i hi
 rw [hc, Nat.mul_one] at h2
 have hd : d = .lit (.int k z) := by simp [hz] at h1; exact h1.symm
 subst hd
 cases f' with
 | zero => simp [DataW.trod] at h2
 | succ f' =>
  cases hq : (cs.drop i).take 1 with
  | nil => rw [hq] at h2; simp [DataW.trod, he] at h2
  | cons v r =>
   have hr : r = [] := by have := congrArg List.length hq; simp at this; cases r with | nil => rfl | cons a b => simp at this; omega
   subst hr
   rw [hq] at h2
   have hv : cs[i]? = some v := at_of_take hq
   rw [hv]
   congr 1
   simp only [DataW.trod, he] at h2
   cases v <;> simp at h2
   rename_i k' n'
   obtain ⟨⟨rfl, _⟩, rfl, _⟩ := h2
   rfl
set_option maxRecDepth 100000 in
theorem known {W : World} (hL0 : laidMetH Tryz.prog laidList W) (hS : W.ShapedOpen Tryz.prog) : ∃ a, Known W a := by
 have hL : laidMet Tryz.prog laidList W := hL0
 obtain ⟨ps, hv, hnd, hrows⟩ := hL
 obtain ⟨g0, t0, cs0, f0, p0, hg0, ht0, hv0, hd0, hin0⟩ := laidVars_places hv "errors.ErrUnsupported" Rows.laid_errors_ErrUnsupported (.tail _ (.tail _ (.tail _ (.tail _ (.head _)))))
 obtain rfl := Option.some.inj (errNamed.symm.trans hg0)
 obtain rfl := Option.some.inj (errType.symm.trans ht0)
 obtain ⟨g1, t1, cs1, f1, p1, hg1, ht1, hv1, hd1, hin1⟩ := laidVars_places hv "internal/strconv.uint64pow10" Rows.laid_internal_strconv_uint64pow10 (.tail _ (.tail _ (.head _)))
 obtain rfl := Option.some.inj (powNamed.symm.trans hg1)
 obtain rfl := Option.some.inj (powType.symm.trans ht1)
 obtain ⟨l0⟩ := cs0
 have ok0 : ∀ u v, l0 = [.iface u v] → Value.okWide Tryz.prog W .any 0 u v := fun u v e => by
  subst e
  exact (hrows 1 0 (hin0 _ (by simp [MemPlace.row]))).2 u v (by simpa using World.var?_cell errNamed hv0 0)
 obtain ⟨a, s, hcs, hc0, hs0, hz0, hp0⟩ := errorString_of_trod (P := Tryz.prog) (ti := 83) (tp := 253) (te := 275) (ts := 9) Tryz.underlying83 row253 Tryz.underlying253 Tryz.underlying275 rfl rfl Tryz.underlying9 (by kernel_rfl) (by kernel_rfl) hd0 ok0
 have hcs : l0 = [.iface 253 (.pointer (some a))] := hcs
 subst hcs
 have hspot : a.spot = none := by
  obtain ⟨b, o, sp⟩ := a
  exact cell_spot hc0
 refine ⟨a, ⟨by simpa using World.var?_cell errNamed hv0 0, hspot, ?_, fun i v hi => ?_, ?_, ?_⟩⟩
 ·rcases Nat.lt_or_ge a.block W.heap.size with h | h
  ·exact h
  ·simp [World.cell?, Array.getElem?_eq_none h] at hc0
 ·have hi20 : i < 20 := by
   have := (List.getElem?_eq_some_iff.1 hi).1
   simpa [pow10s] using this
  have hz : ((List.range 20).map fun i => (10 ^ i : Int))[i]? = some (10 ^ i) := by simp [hi20]
  have hd1' : DataW.trod (fun _ => ()) Tryz.prog W 0 (fun _ => true) false f1 225 cs1.toList = some (.agg (((List.range 20).map fun i => (10 ^ i : Int)).map fun z => .lit (.int .u64 z)), p1) := hd1
  have := ints_of_array (P := Tryz.prog) (t := 225) (e := 39) (n := 20) (k := .u64) Tryz.underlying225 Tryz.underlying39 (by kernel_rfl) hd1' i hi20 _ hz
  have hv : v = .int .u64 (10 ^ i) := by simp [pow10s, hi20] at hi; exact hi.symm
  subst hv
  have h2 := World.var?_cell powNamed hv1 i
  rw [h2]
  rw [← Array.getElem?_toList]
  exact this
 ·obtain ⟨cs, hh, _⟩ := hS.1 10 (Array.replicate 64 (.int .u8 0)) 252 (of_decide_eq_true (by kernel_rfl)) (by kernel_rfl)
  first
   | (have := (Array.getElem?_eq_some_iff.1 hh).1; omega)
   | (have := (Array.getElem?_eq_some_iff.1 hh.1).1; omega)
 ·have e : cs1.toList = Lib.pow10Tab.map fun z => Value.int .u64 z := Lib.cells_of_tab (P := Tryz.prog) (t := 225) (e := 39) (n := 20) (k := .u64) Tryz.underlying225 Tryz.underlying39 (by kernel_rfl) (by kernel_rfl) (show DataW.trod (fun _ => ()) Tryz.prog W 0 (fun _ => true) false f1 225 cs1.toList = some (Lib.tabData .u64 Lib.pow10Tab, p1) from hd1)
  have e2 : cs1 = (Lib.pow10Tab.map fun z => Value.int .u64 z).toArray := by rw [← e]
  show World.var? Tryz.prog W "internal/strconv.uint64pow10" = _
  rw [hv1, e2]
end Go.Proofs.YthopphfehgdocaaGreatDoor
