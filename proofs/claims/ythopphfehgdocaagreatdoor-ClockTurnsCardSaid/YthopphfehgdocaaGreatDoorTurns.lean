import Derived.Test.YthopphfehgdocaaGreatDoorDiv
namespace Go.Proofs.YthopphfehgdocaaGreatDoor
open Go.RowKit Go.Ev Go.Proofs Go.Shelf
set_option linter.unusedSimpArgs false
set_option linter.unusedVariables false
def headsP (args : Array Value) : Option Value := match args.toList with
  | [] => some (.bool true)
  | _ => none
noncomputable def tIntr : Intr := fun f => if f = 12 then some (pureI headsP 0) else if f = 56 then some (pureI divP 19) else none
noncomputable def cxT : Cx := { cx0 with intr := tIntr }
theorem tIntr_some {f : FuncId} {g : Array Value → Hp → Nat → Option (Value × Hp × Nat)} (h : tIntr f = some g) : (f = 12 ∧ g = pureI headsP 0) ∨ (f = 56 ∧ g = pureI divP 19) := by
  unfold tIntr at h
  split at h
  · rename_i hf; cases h; exact .inl ⟨hf, rfl⟩
  · split at h
    · rename_i hf; cases h; exact .inr ⟨hf, rfl⟩
    · cases h
theorem cxT_intr : IntrOk cxT where
  sound f g h := by
    rcases tIntr_some (show tIntr f = some g from h) with ⟨rfl, rfl⟩ | ⟨rfl, rfl⟩
    · refine pureI_sound (cx := cx0) (i := tIntr) (fun args args' v B w E hW hB har hp => ?_)
      have hp' := hp
      unfold headsP at hp'
      split at hp'
      · rename_i hx
        cases hp'
        obtain ⟨h11, a, ha, hk⟩ := hW
        have e : args' = #[] := by
          have := har.1
          have h0 : args.size = 0 := by have := congrArg List.length hx; simpa using this
          exact Array.eq_empty_of_size_eq_zero (by omega)
        subst e
        refine (heads_true hk).mono ?_
        rintro e w' ⟨rfl, hb⟩
        exact ⟨rfl, rfl, hb⟩
      · cases hp'
    · exact pureI_sound_of_ev (cx := cx0) (i := tIntr) (j := fun _ => none) (cx_ok _) cx0_intr (fun args v h H nx => div_ev h H nx)
  mono f g h := by
    rcases tIntr_some (show tIntr f = some g from h) with ⟨rfl, rfl⟩ | ⟨rfl, rfl⟩
    · exact pureI_mono _ _ _
    · exact pureI_mono _ _ _
end Go.Proofs.YthopphfehgdocaaGreatDoor
