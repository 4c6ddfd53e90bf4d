import Derived.Test.YthopphfehgdocaaGreatDoorHeads
set_option linter.unusedSimpArgs false
set_option linter.unusedVariables false
namespace Go.Proofs.YthopphfehgdocaaGreatDoor
open Go.RowKit Go.Ev Go.Proofs Go.Shelf
def E0 (a : Addr) : Env := fun b => if b = 11 then some { cb := a.block, sh := a.off, cap := 0, esz := 0, exact := true } else if b = 1 then some (gPlace 1 1 1) else if b = 2 then some (gPlace 2 20 1) else if b < 11 then some (gPlace b 0 0) else none
theorem T.get_H0 (b : Nat) : H0.get b = if b = 2 then some (mkCells 2 0 1 true pow10s) else if b = 1 then some (mkCells 1 20 1 true [errCell]) else none := by
 unfold H0
 rw [T.get_set, T.get_set, T.get_nil]
theorem start {w : World} {a : Addr} (k : Known w a) (i : FuncId → Option (Array Value → Hp → Nat → Option (Value × Hp × Nat))) : Go.Ev.Start { cx0 with intr := i } H0 (E0 a) w where
 dat b o p := by
  rw [T.get_H0] at p
  split at p
  ·rename_i hb; subst hb; cases p
   refine ⟨gPlace 2 20 1, rfl, ?_⟩
   exact datR_var (vs' := pow10s) (by show 2 < 12; omega) rfl rfl ⟨rfl, fun i v v' p q => by
    rw [p] at q; cases q
    refine .shut 1 _ ?_
    simp only [pow10s, List.getElem?_map, Option.map_eq_some_iff] at p
    obtain ⟨z, _, rfl⟩ := p
    rfl⟩ (fun i v' h => k.pow i v' h)
  ·split at p
   ·rename_i hb; subst hb; cases p
    refine ⟨gPlace 1 1 1, rfl, ?_⟩
    refine datR_var (vs' := [.iface 253 (.pointer (some a))]) (by show 1 < 12; omega) rfl rfl (LR.cons (.iface _ _ _ ?_) (LR.nil _)) (fun i v' h => ?_)
    ·have := VR.ptr (E := E0 a) 11 0 _ rfl
     have e : a = ⟨a.block, a.off + 0, none⟩ := by cases a; simp at *; exact k.spot
     rw [e]
     exact this
    ·match i, h with
     | 0, h => cases h; exact k.err
   ·cases p
 low b pl h := by
  have hs := k.size
  have ht := k.there
  unfold E0 at h
  split at h
  ·rename_i hb; cases h; exact ⟨by show b < 12; omega, ht⟩
  ·split at h
   ·rename_i hb; cases h; exact ⟨by show b < 12; omega, by show 1 < _; omega⟩
   ·split at h
    ·rename_i hb; cases h; exact ⟨by show b < 12; omega, by show 2 < _; omega⟩
    ·split at h
     ·rename_i hb; cases h; exact ⟨by show b < 12; omega, by show b < _; omega⟩
     ·cases h
 globs g hg := by
  have hg : g < 11 := hg
  show ∃ pl, E0 a g = some pl ∧ pl.cb = g ∧ pl.sh = 0
  unfold E0
  rw [if_neg (by omega)]
  split
  ·rename_i h; subst h; exact ⟨_, rfl, rfl, rfl⟩
  ·split
   ·rename_i h; subst h; exact ⟨_, rfl, rfl, rfl⟩
   ·exact ⟨_, rfl, rfl, rfl⟩
theorem heads_true {w : World} {a : Addr} (k : Known w a) : Calls Tryz.prog 12 #[] w fun e w' => e = .returned (.bool true) ∧ Below w.heap.size w w' := by
 have h := heads_ev
 unfold headsB at h
 split at h
 ·rename_i H' nx' he
  exact ev_start (cx_ok bIntr) cxS_intr w (start k bIntr) ⟨k.size, a, k.there, k⟩ (show AR (E0 a) #[] #[] from ⟨rfl, fun i v v' p => by simp at p⟩) he rfl
 ·cases h
end Go.Proofs.YthopphfehgdocaaGreatDoor
