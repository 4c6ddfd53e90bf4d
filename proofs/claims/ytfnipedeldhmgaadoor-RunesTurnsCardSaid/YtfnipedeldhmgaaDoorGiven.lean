/- Contracts, proved by hand, of the functions of package runes that range over a string, write a strings.Builder or turn bytes in place, and of the library's functions under them; each in the form in which a printed contract stands. -/
import Derived.Test.YtfnipedeldhmgaaDoorProg
import Derived.Test.YtfnipedeldhmgaaDoorShelf
import Derived.Test.YtfnipedeldhmgaaDoorWWords
import Derived.Test.YtfnipedeldhmgaaDoorWMore
import Derived.Test.YtfnipedeldhmgaaDoorWZeros
import Derived.Test.YtfnipedeldhmgaaDoorWQPut
import Derived.WalkKit
import Derived.RowKit3
import Derived.Deep.LoopGhost
import Derived.Deep.QuietTactic
import Derived.BigQuiet
import Derived.BigCall
import Derived.Lib.RuneCount
namespace Go.Proofs.YtfnipedeldhmgaaDoor
open Go.RowKit Go.Proofs.YtfnipedeldhmgaaDoorW.PrintWords Go.Proofs.YtfnipedeldhmgaaDoorW.PrintLast Go.Proofs.YtfnipedeldhmgaaDoorW.PrintMore
set_option linter.unusedVariables false
set_option linter.unusedSimpArgs false

/-- What the library's package-level variables hold: utf8's two tables, and some number in bytealg.MaxLen. -/
structure Tabs (w : World) : Prop where
  u : Lib.Utf8Tabs (Tryd.lays196_ren.g 3) (Tryd.lays196_ren.g 4) w
  m : ∃ m : Int, w.cell? ⟨2, 0, none⟩ = some (.int .i64 m)
  z : 2 < w.heap.size
theorem Tabs.of_below {w w1 : World} (h : Tabs w) (hb : Below w.heap.size w w1) : Tabs w1 := by
  obtain ⟨m, hm⟩ := h.m
  have hz := h.z
  refine ⟨⟨fun c hc => ?_, fun i hi => ?_⟩, ⟨m, ?_⟩, Nat.lt_of_lt_of_le h.z hb.size⟩
  · exact (hb.cell (p := ⟨Tryd.lays196_ren.g 3, c, none⟩) (show 0 < w.heap.size by omega)).trans (h.u.1 c hc)
  · exact ⟨(hb.cell (p := ⟨Tryd.lays196_ren.g 4, 2 * i, none⟩) (show 1 < w.heap.size by omega)).trans (h.u.2 i hi).1, (hb.cell (p := ⟨Tryd.lays196_ren.g 4, 2 * i + 1, none⟩) (show 1 < w.heap.size by omega)).trans (h.u.2 i hi).2⟩
  · exact (hb.cell (p := ⟨2, 0, none⟩) (show 2 < w.heap.size by omega)).trans hm
theorem Tabs.drewN {w : World} (h : Tabs w) (n : Nat) : Tabs (w.drewN n) := h.of_below (pw_below_drewN (Below.refl _ _) n)
theorem Tabs.drew1 {w : World} (h : Tabs w) : Tabs w.drew := h.of_below (below_drew1 (Below.refl _ _))

theorem isEmpty_bne (l : List UInt8) : l.isEmpty = !(l != []) := by cases l <;> rfl
theorem wrap_divs (n : Nat) : wrap64 (1048576 / (n : Int)) = 1048576 / (n : Int) := by
  have h0 : 0 ≤ (1048576 : Int) / (n : Int) := Int.ediv_nonneg (by omega) (by omega)
  have h1 : (1048576 : Int) / (n : Int) ≤ 1048576 := Int.ediv_le_self _ (by omega)
  generalize (1048576 : Int) / (n : Int) = d at h0 h1 ⊢
  unfold wrap64
  omega
/-- The pieces of a text: where each begins, and its code point. -/
def segs (s : ByteArray) : Nat → Nat → List (Nat × Nat)
  | 0, _ => []
  | fuel + 1, pos => if pos < s.size then (pos, (Utf8.decode s pos).1) :: segs s fuel (pos + (Utf8.decode s pos).2) else []
theorem segs_end (s : ByteArray) (fuel pos : Nat) (h : ¬ pos < s.size) : segs s fuel pos = [] := by
  cases fuel with
  | zero => rfl
  | succ f => simp [segs, h]
theorem segs_step (s : ByteArray) (fuel pos : Nat) (h : pos < s.size) : segs s (fuel + 1) pos = (pos, (Utf8.decode s pos).1) :: segs s fuel (pos + (Utf8.decode s pos).2) := by simp [segs, h]
theorem width_pos (s : ByteArray) (pos : Nat) (h : pos < s.size) : 1 ≤ (Utf8.decode s pos).2 := by
  by_cases ha : (s[pos]'h).toNat < 128
  · rw [decode_ascii s pos h ha]
    exact Nat.le_refl _
  · exact (decode_high s pos h (by omega)).2

/-! ### runes.offset -/
/-- where the piece number n stands, or the end. -/
def offTo (z : Nat) (l : List (Nat × Nat)) (n : Int) : Nat := match l[n.toNat]? with
  | some p => p.1
  | none => z
def runes_offset.f (a0 : ByteArray) (a1 : Int) : Option Int := if a0.size ≤ 140737488355328 ∧ -9223372036854775808 ≤ a1 ∧ a1 ≤ 9223372036854775807 then some (offTo a0.size (segs a0 a0.size 0) a1) else none
theorem offTo_nil (z : Nat) (n : Int) : offTo z [] n = z := by simp [offTo]
theorem offTo_zero (z : Nat) (p : Nat × Nat) (l : List (Nat × Nat)) (n : Int) (h : n ≤ 0) : offTo z (p :: l) n = p.1 := by
  have : n.toNat = 0 := by omega
  simp [offTo, this]
theorem offTo_pos (z : Nat) (p : Nat × Nat) (l : List (Nat × Nat)) (n : Int) (h : 0 < n) : offTo z (p :: l) n = offTo z l (n - 1) := by
  obtain ⟨m, hm⟩ : ∃ m, n.toNat = m + 1 := ⟨n.toNat - 1, by omega⟩
  have h2 : (n - 1).toNat = m := by omega
  simp [offTo, hm, h2]
theorem below_iter (w : World) (s : ByteArray) (pos : Nat) : Below w.heap.size w (w.iter s pos) := (Below.refl _ _).alloc (Nat.le_refl _) _

set_option maxHeartbeats 4000000 in
set_option maxRecDepth 100000 in
theorem runes_offset.calls (a0 : ByteArray) (a1 : Int) (r : Int) (w : World) (h : runes_offset.f a0 a1 = some r) :
    Calls Tryd.prog 33 #[.string a0, .int .i64 a1] w fun e w' => e = .returned (.int .i64 r) ∧ Below w.heap.size w w' := by
  have hs : a0.size ≤ 140737488355328 ∧ -9223372036854775808 ≤ a1 ∧ a1 ≤ 9223372036854775807 := by
    by_cases hc : a0.size ≤ 140737488355328 ∧ -9223372036854775808 ≤ a1 ∧ a1 ≤ 9223372036854775807
    · exact hc
    · simp [runes_offset.f, hc] at h
  have hr : (offTo a0.size (segs a0 a0.size 0) a1 : Int) = r := by simpa [runes_offset.f, hs] using h
  clear h
  have HR := Aside0.mk hr
  clear hr
  obtain ⟨hs, hl, hu⟩ := hs
  go_enter Tryd.func33, Tryd.ntmps33
  go_wp2
  go_loopw [1] (fun v w' => ∃ (pos b : Nat) (n : Int), w' = w.iter a0 pos ∧ v = .int .i64 n ∧ Aside0 ((offTo a0.size (segs a0 b pos) n : Int) = r) ∧ a0.size ≤ pos + b ∧ -9223372036854775808 ≤ n ∧ n ≤ 9223372036854775807) (fun _ w' => a0.size - w'.iterPos w.heap.size)
  case atStart => exact ⟨0, a0.size, a1, rfl, rfl, HR, by omega, hl, hu⟩
  case round =>
    clear HR
    obtain ⟨pos, b, n, rfl, rfl, HA, hb, hl, hu⟩ := hrel
    by_cases hp : pos < a0.size
    · have hnx : ∀ ty, (Instr.next (.pointer (some ⟨w.heap.size, 0, none⟩)) true ty).run Tryd.prog (w.iter a0 pos) = _ := fun ty => run_next_any w a0 pos ty hp
      have hwd := width_pos a0 pos hp
      obtain ⟨f, rfl⟩ : ∃ f, b = f + 1 := ⟨b - 1, by omega⟩
      by_cases h0 : n ≤ 0
      · have HR : Aside0 ((pos : Int) = r) := ⟨by have := HA.out; rw [segs_step a0 f pos hp, offTo_zero _ _ _ _ h0] at this; exact this⟩
        clear HA
        go_wp2
        go_ret
        exact ⟨by rw [HR.out]; rfl, below_iter _ _ _⟩
      · have h1 : 0 < n := by omega
        have HR : Aside0 ((offTo a0.size (segs a0 f (pos + (Utf8.decode a0 pos).2)) (n - 1) : Int) = r) := ⟨by have := HA.out; rw [segs_step a0 f pos hp, offTo_pos _ _ _ _ h1] at this; exact this⟩
        clear HA
        go_wp2
        go_roundw
        case rel => exact ⟨pos + (Utf8.decode a0 pos).2, f, n - 1, rfl, rfl, HR, by omega, by omega, by omega⟩
        case measure =>
          simp
          omega
    · have hnx : ∀ ty, (Instr.next (.pointer (some ⟨w.heap.size, 0, none⟩)) true ty).run Tryd.prog (w.iter a0 pos) = _ := fun ty => run_next_end w a0 pos ty hp
      have HR : Aside0 ((a0.size : Int) = r) := ⟨by have := HA.out; rw [segs_end a0 b pos hp, offTo_nil] at this; exact this⟩
      clear HA
      go_wp2
      go_ret
      exact ⟨by rw [HR.out]; rfl, below_iter _ _ _⟩

/-! ### runes.Points -/
def runes_Points.f (a0 : ByteArray) : Option (List Int) := if a0.size < 17592186044416 then some ((segs a0 a0.size 0).map fun p => (p.2 : Int)) else none
theorem info3 : (Tryd.prog.info? 3).map (fun i => (i.zero, i.size, i.bytes)) = some (some (.int .i64 0), 1, 8) := by kernel_rfl

set_option maxHeartbeats 4000000 in
set_option maxRecDepth 100000 in
theorem runes_Points.calls (a0 : ByteArray) (r : List Int) (w : World) (h : runes_Points.f a0 = some r) :
    Calls Tryd.prog 31 #[.string a0] w fun e w' => ∃ v0_ : Value, e = .returned (v0_) ∧ Kd.R (Kd.int .i64) 3 w' w.heap.size (fun _ => True) v0_ r ∧ Below w.heap.size w w' := by
  have hs : a0.size < 17592186044416 := by
    by_cases hc : a0.size < 17592186044416
    · exact hc
    · simp [runes_Points.f, hc] at h
  have hr : (segs a0 a0.size 0).map (fun p => (p.2 : Int)) = r := by simpa [runes_Points.f, hs] using h
  clear h
  have HR := Aside0.mk (show ([] : List Int) ++ (segs a0 a0.size 0).map (fun p => (p.2 : Int)) = r by simpa using hr)
  clear hr
  go_enter Tryd.func31, Tryd.ntmps31
  go_wp2
  go_loopw [3] (fun v w' => ∃ (pos b : Nat) (acc : List Int), w'.heap[w.heap.size]? = some (.stringIter a0 pos) ∧ Aside0 (Kd.R (Kd.int .i64) 3 w' w.heap.size (fun k => k ≠ w.heap.size) v acc) ∧ Aside0 (acc ++ (segs a0 b pos).map (fun p => (p.2 : Int)) = r) ∧ a0.size ≤ pos + b ∧ acc.length ≤ pos ∧ Aside0 (Below w.heap.size w w')) (fun _ w' => a0.size - w'.iterPos w.heap.size)
  case atStart => exact ⟨0, a0.size, [], World.iter_heap _ _ _, ⟨Kd.R_nil _ _ _ _ _⟩, HR, by omega, by simp, ⟨below_iter _ _ _⟩⟩
  case round =>
    clear HR
    obtain ⟨pos, b, acc, hit, HO, HA, hb, hl, HB⟩ := hrel
    have hsz : w.heap.size < wr.heap.size := (Array.getElem?_eq_some_iff.1 hit).1
    by_cases hp : pos < a0.size
    · have hnx : ∀ ty, (Instr.next (.pointer (some ⟨w.heap.size, 0, none⟩)) true ty).run Tryd.prog wr = _ := fun ty => Lib.run_next_any_at wr w.heap.size a0 pos ty hit hp
      have hwd := width_pos a0 pos hp
      have hd1 := decode_le a0 pos
      obtain ⟨f, rfl⟩ : ∃ f, b = f + 1 := ⟨b - 1, by omega⟩
      have HO2 := Aside0.mk (show Kd.R (Kd.int .i64) 3 (wr.iterAt w.heap.size a0 (pos + (Utf8.decode a0 pos).2)) w.heap.size (fun k => k ≠ w.heap.size) u3 acc from Kd.R_step HO.out (fun k hk _ => Lib.iterAt_other wr _ k a0 _ hk))
      have hit2 := Lib.iterAt_heap wr w.heap.size a0 pos (pos + (Utf8.decode a0 pos).2) hit
      have HB2 := Aside0.mk (Lib.below_iterAt HB.out (k := w.heap.size) (Nat.le_refl _) a0 (pos + (Utf8.decode a0 pos).2))
      have hsz2 : w.heap.size < (wr.iterAt w.heap.size a0 (pos + (Utf8.decode a0 pos).2)).heap.size := by rw [Lib.iterAt_size]; exact hsz
      clear HO HB
      have HH := Aside0.mk hit2
      have HI := Aside0.mk hit
      clear hit2 hit
      have HA2 : Aside0 ((acc ++ [((Utf8.decode a0 pos).1 : Int)]) ++ (segs a0 f (pos + (Utf8.decode a0 pos).2)).map (fun p => (p.2 : Int)) = r) := ⟨by have := HA.out; rw [segs_step a0 f pos hp] at this; simpa using this⟩
      clear HA
      go_wp2_with (at_builtin; refine Kd.R_append (Kd.int .i64) (w0 := w) w.heap.size rfl (.tmp 11) (.tmp 14) 24 3 (.int .i64 0) 8 rfl Tryd.underlying24 info3 rfl (by decide) (by omega) u3 acc ((Utf8.decode a0 pos).1 : Int) [.int .i64 ((Utf8.decode a0 pos).1 : Int)] (fun k => k ≠ w.heap.size) (fun _ => False) rfl rfl ?aP (fun _ hk => hk.elim) ?aF ?aO ?aB ?aS ?aL ?_; (case aP => exact rfl); (case aB => exact HB2.out); (case aF => exact (fun k hk => by omega)); (case aO => exact HO2.out); (case aS => omega); (case aL => omega); intro v1 w1 ho hb hg hat; have n0_ := Aside0.mk hb; have n1_ := Aside0.mk ho; have n2_ := Aside0.mk (show w1.heap[w.heap.size]? = some (.stringIter a0 (pos + (Utf8.decode a0 pos).2)) from (hg.block _ hsz2 (fun e => HO2.out.1 _ e.symm rfl)).trans HH.out); clear ho hb hg hat HB2 HO2 HH)
      go_roundw
      case rel => exact ⟨pos + (Utf8.decode a0 pos).2, f, acc ++ [((Utf8.decode a0 pos).1 : Int)], n2_.out, n1_, HA2, by omega, by simp; omega, n0_⟩
      case measure =>
        simp only [World.iterPos, n2_.out, HI.out]
        omega
    · have hnx : ∀ ty, (Instr.next (.pointer (some ⟨w.heap.size, 0, none⟩)) true ty).run Tryd.prog wr = _ := fun ty => Lib.run_next_end_at wr w.heap.size a0 pos ty hit hp
      have HR : Aside0 (acc = r) := ⟨by have := HA.out; rw [segs_end a0 b pos hp] at this; simpa using this⟩
      clear HA
      go_wp2
      go_ret
      exact ⟨_, rfl, by rw [← HR.out]; exact Kd.R_mono HO.out (fun _ _ => trivial), HB.out⟩

/-! ### the library -/
def utf8_ValidString.f (a0 : ByteArray) : Option Bool := if a0.size ≤ 9223372036854775807 then some (Lib.validD a0.data.toList) else none
theorem utf8_ValidString.calls (a0 : ByteArray) (r : Bool) (w : World) (hT : Tabs w) (h : utf8_ValidString.f a0 = some r) :
    Calls Tryd.prog 47 #[.string a0] w fun e w' => e = .returned (.bool r) ∧ Below w.heap.size w w' := by
  by_cases hc : a0.size ≤ 9223372036854775807
  · rw [utf8_ValidString.f, if_pos hc] at h
    cases h
    exact Any.utf8_ValidString Tryd.lays196 a0 w hc hT.u
  · rw [utf8_ValidString.f, if_neg hc] at h
    cases h
def utf8_RuneCountInString.f (a0 : ByteArray) : Option Int := if a0.size < 9223372036854775807 then some (Lib.runeCount a0) else none
theorem utf8_RuneCountInString.calls (a0 : ByteArray) (r : Int) (w : World) (h : utf8_RuneCountInString.f a0 = some r) :
    Calls Tryd.prog 49 #[.string a0] w fun e w' => e = .returned (.int .i64 r) ∧ Below w.heap.size w w' := by
  by_cases hc : a0.size < 9223372036854775807
  · rw [utf8_RuneCountInString.f, if_pos hc] at h
    cases h
    refine (Tryd.utf8_RuneCountInString a0 w hc).mono ?_
    rintro e w' ⟨rfl, pos, rfl⟩
    exact ⟨rfl, below_iter _ _ _⟩
  · rw [utf8_RuneCountInString.f, if_neg hc] at h
    cases h
def strings_Cut.f (a0 a1 : ByteArray) : Option (ByteArray × ByteArray × Bool) := if a0.size < 4294967281 then some (⟨(Lib.cut a0.data.toList a1.data.toList).1.toArray⟩, ⟨(Lib.cut a0.data.toList a1.data.toList).2.1.toArray⟩, (Lib.cut a0.data.toList a1.data.toList).2.2) else none
theorem strings_Cut.calls (a0 a1 : ByteArray) (r1 r2 : ByteArray) (r3 : Bool) (w : World) (hT : Tabs w) (h : strings_Cut.f a0 a1 = some (r1, r2, r3)) :
    Calls Tryd.prog 37 #[.string a0, .string a1] w fun e w' => e = .returned (.tuple #[.string r1, .string r2, .bool r3]) ∧ Drawn0 w w' := by
  by_cases hc : a0.size < 4294967281
  · rw [strings_Cut.f, if_pos hc] at h
    cases h
    obtain ⟨m, hm⟩ := hT.m
    refine (Tryd.strings_Cut a0 a1 m w hc hm).mono ?_
    rintro e w' ⟨rfl, n, rfl⟩
    exact ⟨rfl, ⟨n, rfl⟩⟩
  · rw [strings_Cut.f, if_neg hc] at h
    cases h
def asciiB (l : List UInt8) : Bool := l.all fun b => decide (b.toNat < 128)
theorem ascii_of_B {l : List UInt8} (h : asciiB l = true) (j : Nat) (b : UInt8) (hj : l[j]? = some b) : b.toNat < 128 := by
  have := List.all_eq_true.1 h b (List.mem_of_getElem? hj)
  simpa using this
def strings_TrimLeft.f (a0 a1 : ByteArray) : Option ByteArray := if a1.size < 4294967281 ∧ asciiB a1.data.toList = true then some ⟨(Lib.trimLeftS a0.data.toList a1.data.toList).toArray⟩ else none
theorem strings_TrimLeft.calls (a0 a1 : ByteArray) (r : ByteArray) (w : World) (h : strings_TrimLeft.f a0 a1 = some r) :
    Calls Tryd.prog 39 #[.string a0, .string a1] w fun e w' => e = .returned (.string r) ∧ Below w.heap.size w w' := by
  by_cases hc : a1.size < 4294967281 ∧ asciiB a1.data.toList = true
  · rw [strings_TrimLeft.f, if_pos hc] at h
    cases h
    exact Any.strings_TrimLeft_laid Tryd.lays161 (by kernel_rfl) a0 a1 w hc.1 (ascii_of_B hc.2)
  · rw [strings_TrimLeft.f, if_neg hc] at h
    cases h
def strings_TrimRight.f (a0 a1 : ByteArray) : Option ByteArray := if a0.size ≤ 9223372036854775807 ∧ a1.size < 4294967281 ∧ asciiB a1.data.toList = true then some ⟨(Lib.trimRightS a0.data.toList a1.data.toList).toArray⟩ else none
theorem strings_TrimRight.calls (a0 a1 : ByteArray) (r : ByteArray) (w : World) (h : strings_TrimRight.f a0 a1 = some r) :
    Calls Tryd.prog 40 #[.string a0, .string a1] w fun e w' => e = .returned (.string r) ∧ Below w.heap.size w w' := by
  by_cases hc : a0.size ≤ 9223372036854775807 ∧ a1.size < 4294967281 ∧ asciiB a1.data.toList = true
  · rw [strings_TrimRight.f, if_pos hc] at h
    cases h
    exact Any.strings_TrimRight_laid Tryd.lays162 (by kernel_rfl) a0 a1 w hc.1 hc.2.1 (ascii_of_B hc.2.2)
  · rw [strings_TrimRight.f, if_neg hc] at h
    cases h
def strings_Repeat.f (a0 : ByteArray) (a1 : Int) : Option ByteArray := if 0 ≤ a1 ∧ a1 ≤ 9223372036854775807 ∧ a0.size * a1.toNat ≤ 140737488355328 then some ⟨(Lib.repeatL a0.data.toList a1.toNat).toArray⟩ else none
theorem strings_Repeat.calls (a0 : ByteArray) (a1 : Int) (r : ByteArray) (w : World) (h : strings_Repeat.f a0 a1 = some r) :
    Calls Tryd.prog 38 #[.string a0, .int .i64 a1] w fun e w' => e = .returned (.string r) ∧ Below w.heap.size w w' := by
  by_cases hc : 0 ≤ a1 ∧ a1 ≤ 9223372036854775807 ∧ a0.size * a1.toNat ≤ 140737488355328
  · rw [strings_Repeat.f, if_pos hc] at h
    cases h
    have e1 : a1 = (a1.toNat : Int) := by omega
    have := Tryd.strings_Repeat a0 a1.toNat w (by omega) hc.2.2
    rw [← e1] at this
    exact this
  · rw [strings_Repeat.f, if_neg hc] at h
    cases h

/-! ### runes.Clean -/
def cleanL (s : ByteArray) (fuel pos : Nat) : List UInt8 := (segs s fuel pos).flatMap fun p => Lib.encodeRune p.2
def runes_Clean.f (l0 : List Int) : Option ByteArray := if (strOfNums l0).size ≤ 35184372088832 then some ⟨(cleanL (strOfNums l0) (strOfNums l0).size 0).toArray⟩ else none
theorem cleanL_end (s : ByteArray) (fuel pos : Nat) (h : ¬ pos < s.size) : cleanL s fuel pos = [] := by rw [cleanL, segs_end s fuel pos h]; rfl
theorem cleanL_step (s : ByteArray) (fuel pos : Nat) (h : pos < s.size) : cleanL s (fuel + 1) pos = Lib.encodeRune (Utf8.decode s pos).1 ++ cleanL s fuel (pos + (Utf8.decode s pos).2) := by rw [cleanL, segs_step s fuel pos h]; rfl

set_option maxHeartbeats 4000000 in
set_option maxRecDepth 100000 in
theorem runes_Clean.calls (A0 : Option Addr) (c0 : Nat) (l0 : List Int) (r : ByteArray) (w : World) (hr0 : Kd.C (Kd.int .u8) w A0 l0.length l0) (hc0 : l0.length ≤ c0) (h : runes_Clean.f l0 = some r) :
    Calls Tryd.prog 25 #[.slice A0 l0.length c0] w fun e w' => e = .returned (.string r) ∧ Below w.heap.size w w' := by
  have hs : (strOfNums l0).size ≤ 35184372088832 := by
    by_cases hc : (strOfNums l0).size ≤ 35184372088832
    · exact hc
    · rw [runes_Clean.f, if_neg hc] at h
      cases h
  rw [runes_Clean.f, if_pos hs] at h
  cases h
  have hr1 : Kd.C (Kd.int .u8) (w.alloc (.cells #[.pointer none, .slice none 0 0] 58)) A0 l0.length l0 := Kd.C_below hr0 ((Below.refl _ _).alloc (Nat.le_refl _) _)
  have hcv := Kd.C_string (P := Tryd.prog) (A := A0) (c := c0) Tryd.underlying40 Tryd.underlying5 Tryd.underlying9 hr1
  clear hr0 hr1
  generalize strOfNums l0 = s at hs hcv ⊢
  go_enter Tryd.func25, Tryd.ntmps25
  go_wp2
  go_loopw [] (fun wr => ∃ (pos fuel : Nat) (acc : List UInt8), Aside0 (Lib.IsBuilderF 58 5 w.heap.size w.heap.size (Lib.byteCells acc) wr) ∧ wr.heap[w.heap.size + 1]? = some (.stringIter s pos) ∧ Aside0 (Below w.heap.size w wr) ∧ Aside0 (acc ++ cleanL s fuel pos = cleanL s s.size 0) ∧ s.size ≤ pos + fuel ∧ acc.length ≤ 4 * pos) (fun wr => s.size - wr.iterPos (w.heap.size + 1))
  case atStart =>
    refine ⟨0, s.size, [], ⟨(Lib.IsBuilderF.of (Lib.fresh_isBuilder 58 5 w)).alloc _⟩, ?_, ⟨((Below.refl _ w).alloc (Nat.le_refl _) _).alloc (by simp) _⟩, ⟨rfl⟩, by omega, by simp⟩
    have := World.iter_heap (w.alloc (.cells #[.pointer none, .slice none 0 0] 58)) s 0
    simpa using this
  case round =>
    obtain ⟨pos, fuel, acc, hI, hit, hbw, hacc, hfu, hal⟩ := hrel
    have hsz : w.heap.size + 1 < wr.heap.size := (Array.getElem?_eq_some_iff.1 hit).1
    clear hcv
    by_cases hp : pos < s.size
    · have hnx : ∀ ty, (Instr.next (.pointer (some ⟨w.heap.size + 1, 0, none⟩)) true ty).run Tryd.prog wr = _ := fun ty => Lib.run_next_any_at wr (w.heap.size + 1) s pos ty hit hp
      have hwd := width_pos s pos hp
      have hd1 := decode_le s pos
      have hI2 := Aside0.mk (hI.out.iterAt hit (pos + (Utf8.decode s pos).2))
      have hit2 := Lib.iterAt_heap wr (w.heap.size + 1) s pos (pos + (Utf8.decode s pos).2) hit
      have hbw2 := Aside0.mk (Lib.below_iterAt hbw.out (k := w.heap.size + 1) (by omega) s (pos + (Utf8.decode s pos).2))
      have hsz2 : w.heap.size ≤ (wr.iterAt (w.heap.size + 1) s (pos + (Utf8.decode s pos).2)).heap.size := by rw [Lib.iterAt_size]; omega
      obtain ⟨f, rfl⟩ : ∃ f, fuel = f + 1 := ⟨fuel - 1, by omega⟩
      have hacc2 : Aside0 ((acc ++ Lib.encodeRune (Utf8.decode s pos).1) ++ cleanL s f (pos + (Utf8.decode s pos).2) = cleanL s s.size 0) := ⟨by have := hacc.out; rw [cleanL_step s f pos hp] at this; simpa using this⟩
      clear hacc
      go_wp2_with (go_at_call 43; refine (Tryd.Builder_WriteRune_k w.heap.size w.heap.size _ _ (by omega) (by omega) _ hI2.out (by rw [Lib.byteCells_length]; omega) hsz2).mono ?_)
      rintro e W1 ⟨rfl, h1, b1, k1⟩
      have H1 := Aside0.mk h1
      clear h1
      go_wp2
      go_roundw
      case rel =>
        have hl4 := Lib.runeCells_le ((Utf8.decode s pos).1 : Int)
        rw [Lib.runeCells_length] at hl4
        refine ⟨pos + (Utf8.decode s pos).2, f, acc ++ Lib.encodeRune (Utf8.decode s pos).1, ⟨?_⟩, k1.iter hit2 (by omega), ⟨hbw2.out.trans b1⟩, hacc2, by omega, by simp; omega⟩
        rw [Lib.byteCells_append, Lib.byteCells_encodeRune]; exact Or.inr H1.out
      case measure =>
        simp only [World.iterPos, k1.iter hit2 (by omega), hit]
        omega
    · have hnx : ∀ ty, (Instr.next (.pointer (some ⟨w.heap.size + 1, 0, none⟩)) true ty).run Tryd.prog wr = _ := fun ty => Lib.run_next_end_at wr (w.heap.size + 1) s pos ty hit hp
      go_wp2_with (go_at_call 44; refine (Tryd.Builder_String_any_k w.heap.size w.heap.size acc _ hI.out (by omega)).mono ?_)
      rintro e W1 ⟨rfl, _, b1, _⟩
      go_wp2
      go_ret
      have hacc := hacc.out
      rw [cleanL_end s fuel pos hp, List.append_nil] at hacc
      subst hacc
      exact ⟨rfl, hbw.out.trans b1⟩

/-! ### runes.Find -/
def hitAt (s part : ByteArray) (pos : Nat) : Bool := !part.toList.isEmpty && Lib.hasPrefix (s.extract pos s.size).data.toList part.data.toList
def findL (s part : ByteArray) : Nat → Nat → Int → List Int
  | 0, _, _ => []
  | fuel + 1, pos, n => if pos < s.size then (if hitAt s part pos = true then [n] else []) ++ findL s part fuel (pos + (Utf8.decode s pos).2) (n + 1) else []
theorem findL_end (s part : ByteArray) (fuel pos : Nat) (n : Int) (h : ¬ pos < s.size) : findL s part fuel pos n = [] := by
  cases fuel with
  | zero => rfl
  | succ f => simp [findL, h]
theorem findL_yes (s part : ByteArray) (fuel pos : Nat) (n : Int) (h : pos < s.size) (hh : hitAt s part pos = true) : findL s part (fuel + 1) pos n = n :: findL s part fuel (pos + (Utf8.decode s pos).2) (n + 1) := by simp [findL, h, hh]
theorem findL_no (s part : ByteArray) (fuel pos : Nat) (n : Int) (h : pos < s.size) (hh : hitAt s part pos = false) : findL s part (fuel + 1) pos n = findL s part fuel (pos + (Utf8.decode s pos).2) (n + 1) := by simp [findL, h, hh]
def runes_Find.f (a0 a1 : ByteArray) : Option (List Int) := if a0.size < 17592186044416 then some (findL a0 a1 a0.size 0 0) else none

set_option maxHeartbeats 4000000 in
set_option maxRecDepth 100000 in
theorem runes_Find.calls (a0 a1 : ByteArray) (r : List Int) (w : World) (h : runes_Find.f a0 a1 = some r) :
    Calls Tryd.prog 11 #[.string a0, .string a1] w fun e w' => ∃ v0_ : Value, e = .returned (v0_) ∧ Kd.R (Kd.int .i64) 3 w' w.heap.size (fun _ => True) v0_ r ∧ Below w.heap.size w w' := by
  have hs : a0.size < 17592186044416 := by
    by_cases hc : a0.size < 17592186044416
    · exact hc
    · simp [runes_Find.f, hc] at h
  have hr : findL a0 a1 a0.size 0 0 = r := by simpa [runes_Find.f, hs] using h
  clear h
  have HR := Aside0.mk (show ([] : List Int) ++ findL a0 a1 a0.size 0 ((0 : Nat) : Int) = r by simpa using hr)
  clear hr
  go_enter Tryd.func11, Tryd.ntmps11
  go_wp2
  go_loopw [5, 6] (fun v n w' => ∃ (pos b k : Nat) (acc : List Int), w'.heap[w.heap.size]? = some (.stringIter a0 pos) ∧ n = .int .i64 k ∧ Aside0 (Kd.R (Kd.int .i64) 3 w' w.heap.size (fun k => k ≠ w.heap.size) v acc) ∧ Aside0 (acc ++ findL a0 a1 b pos (k : Int) = r) ∧ a0.size ≤ pos + b ∧ acc.length ≤ pos ∧ k ≤ pos ∧ Aside0 (Below w.heap.size w w')) (fun _ _ w' => a0.size - w'.iterPos w.heap.size)
  case atStart => exact ⟨0, a0.size, 0, [], World.iter_heap _ _ _, rfl, ⟨Kd.R_nil _ _ _ _ _⟩, HR, by omega, by simp, by omega, ⟨below_iter _ _ _⟩⟩
  case round =>
    clear HR
    obtain ⟨pos, b, k, acc, hit, rfl, HO, HA, hb, hl, hk, HB⟩ := hrel
    have hsz : w.heap.size < wr.heap.size := (Array.getElem?_eq_some_iff.1 hit).1
    by_cases hp : pos < a0.size
    · have hnx : ∀ ty, (Instr.next (.pointer (some ⟨w.heap.size, 0, none⟩)) true ty).run Tryd.prog wr = _ := fun ty => Lib.run_next_any_at wr w.heap.size a0 pos ty hit hp
      have hwd := width_pos a0 pos hp
      have hd1 := decode_le a0 pos
      obtain ⟨f, rfl⟩ : ∃ f, b = f + 1 := ⟨b - 1, by omega⟩
      have HO2 := Aside0.mk (show Kd.R (Kd.int .i64) 3 (wr.iterAt w.heap.size a0 (pos + (Utf8.decode a0 pos).2)) w.heap.size (fun k => k ≠ w.heap.size) u5 acc from Kd.R_step HO.out (fun k hk _ => Lib.iterAt_other wr _ k a0 _ hk))
      have hit2 := Lib.iterAt_heap wr w.heap.size a0 pos (pos + (Utf8.decode a0 pos).2) hit
      have HB2 := Aside0.mk (Lib.below_iterAt HB.out (k := w.heap.size) (Nat.le_refl _) a0 (pos + (Utf8.decode a0 pos).2))
      have hsz2 : w.heap.size < (wr.iterAt w.heap.size a0 (pos + (Utf8.decode a0 pos).2)).heap.size := by rw [Lib.iterAt_size]; exact hsz
      clear HO HB
      have HH := Aside0.mk hit2
      have HI := Aside0.mk hit
      clear hit2 hit
      cases hhit : hitAt a0 a1 pos with
      | true =>
        have HA2 : Aside0 ((acc ++ [(k : Int)]) ++ findL a0 a1 f (pos + (Utf8.decode a0 pos).2) ((k + 1 : Nat) : Int) = r) := ⟨by have := HA.out; rw [findL_yes a0 a1 f pos _ hp hhit] at this; simpa using this⟩
        clear HA
        have he : a1.toList.isEmpty = false := by
          rw [hitAt, Bool.and_eq_true] at hhit
          simpa using hhit.1
        have hpre : Lib.hasPrefix (a0.extract pos a0.size).data.toList a1.data.toList = true := by
          rw [hitAt, Bool.and_eq_true] at hhit
          exact hhit.2
        have HP := Aside0.mk hpre
        clear hhit hpre
        have he2 : (!a1.toList.isEmpty) = true := by rw [he]; rfl
        go_wp2_with (first | (go_at_call 35; refine (Tryd.strings_HasPrefix _ _ _).mono ?_; rintro e w' ⟨rfl, rfl⟩; rw [HP.out]) | (at_builtin; refine Kd.R_append (Kd.int .i64) (w0 := w) w.heap.size rfl (.tmp 22) (.tmp 24) 24 3 (.int .i64 0) 8 rfl Tryd.underlying24 info3 rfl (by decide) (by omega) u5 acc (k : Int) [.int .i64 (k : Int)] (fun k => k ≠ w.heap.size) (fun _ => False) rfl rfl ?aP (fun _ hk => hk.elim) ?aF ?aO ?aB ?aS ?aL ?_; (case aP => exact rfl); (case aB => exact HB2.out); (case aF => exact (fun k hk => by omega)); (case aO => exact HO2.out); (case aS => omega); (case aL => omega); intro v1 w1 ho hb hg hat; have n0_ := Aside0.mk hb; have n1_ := Aside0.mk ho; have n2_ := Aside0.mk (show w1.heap[w.heap.size]? = some (.stringIter a0 (pos + (Utf8.decode a0 pos).2)) from (hg.block _ hsz2 (fun e => HO2.out.1 _ e.symm rfl)).trans HH.out); clear ho hb hg hat HB2 HO2 HH))
        go_roundw
        case rel => exact ⟨pos + (Utf8.decode a0 pos).2, f, k + 1, acc ++ [(k : Int)], n2_.out, by go_num, n1_, HA2, by omega, by simp; omega, by omega, n0_⟩
        case measure =>
          simp only [World.iterPos, n2_.out, HI.out]
          omega
      | false =>
        have HA2 : Aside0 (acc ++ findL a0 a1 f (pos + (Utf8.decode a0 pos).2) ((k + 1 : Nat) : Int) = r) := ⟨by have := HA.out; rw [findL_no a0 a1 f pos _ hp hhit] at this; simpa using this⟩
        clear HA
        cases he : a1.toList.isEmpty with
        | true =>
          have he2 : (!a1.toList.isEmpty) = false := by rw [he]; rfl
          have he3 : a1.toList = [] := by simpa using he
          clear hhit
          go_wp2
          go_roundw
          case rel => exact ⟨pos + (Utf8.decode a0 pos).2, f, k + 1, acc, HH.out, by go_num, HO2, HA2, by omega, by omega, by omega, HB2⟩
          case measure =>
            simp only [World.iterPos, HH.out, HI.out]
            omega
        | false =>
          have hpre : Lib.hasPrefix (a0.extract pos a0.size).data.toList a1.data.toList = false := by
            rw [hitAt, he] at hhit
            simpa using hhit
          have HP := Aside0.mk hpre
          clear hhit hpre
          have he2 : (!a1.toList.isEmpty) = true := by rw [he]; rfl
          go_wp2_with (go_at_call 35; refine (Tryd.strings_HasPrefix _ _ _).mono ?_; rintro e w' ⟨rfl, rfl⟩; rw [HP.out])
          go_roundw
          case rel => exact ⟨pos + (Utf8.decode a0 pos).2, f, k + 1, acc, HH.out, by go_num, HO2, HA2, by omega, by omega, by omega, HB2⟩
          case measure =>
            simp only [World.iterPos, HH.out, HI.out]
            omega
    · have hnx : ∀ ty, (Instr.next (.pointer (some ⟨w.heap.size, 0, none⟩)) true ty).run Tryd.prog wr = _ := fun ty => Lib.run_next_end_at wr w.heap.size a0 pos ty hit hp
      have HR : Aside0 (acc = r) := ⟨by have := HA.out; rw [findL_end a0 a1 b pos _ hp] at this; simpa using this⟩
      clear HA
      go_wp2
      go_ret
      exact ⟨_, rfl, by rw [← HR.out]; exact Kd.R_mono HO.out (fun _ _ => trivial), HB.out⟩

/-! ### runes.Of -/
def ofOk (p : Int) : Bool := decide (0 ≤ p) && (decide (p ≤ 1114111) && Lib.validRune p)
def ofL : List Int → List UInt8 → Option (List UInt8)
  | [], acc => some acc
  | p :: l, acc => if ofOk p = true then ofL l (acc ++ Lib.encodeRune p) else none
def ofR (o : Option (List UInt8)) : ByteArray × Int := match o with
  | some b => (⟨b.toArray⟩, 0)
  | none => (⟨#[]⟩, 2)
def runes_Of.f (l0 : List Int) : Option (ByteArray × Int) := if l0.length ≤ 35184372088832 then some (ofR (ofL l0 [])) else none
theorem encode_le (p : Int) : (Lib.encodeRune p).length ≤ 4 := by
  have := Lib.runeCells_le p
  rw [Lib.runeCells_length] at this
  exact this.2
theorem drop_step {l : List Int} {k : Nat} (h : k < l.length) : l.drop k = rd l (k : Int) :: l.drop (k + 1) := by
  rw [List.drop_eq_getElem_cons h]
  simp [rd, h]

set_option maxHeartbeats 4000000 in
set_option maxRecDepth 100000 in
theorem runes_Of.calls (A0 : Option Addr) (c0 : Nat) (l0 : List Int) (r1 : ByteArray) (r2 : Int) (w : World) (hr0 : Kd.C (Kd.int .i64) w A0 l0.length l0) (hc0 : l0.length ≤ c0) (h : runes_Of.f l0 = some (r1, r2)) :
    Calls Tryd.prog 23 #[.slice A0 l0.length c0] w fun e w' => e = .returned (.tuple #[.string r1, .int .i64 r2]) ∧ Below w.heap.size w w' := by
  have hs : l0.length ≤ 35184372088832 := by
    by_cases hc : l0.length ≤ 35184372088832
    · exact hc
    · rw [runes_Of.f, if_neg hc] at h
      cases h
  rw [runes_Of.f, if_pos hs] at h
  have HR := Aside0.mk (Option.some.inj h)
  clear h
  have HR0 := Aside0.mk hr0
  clear hr0
  go_enter Tryd.func23, Tryd.ntmps23
  go_wp2
  go_loopw [9] (fun v wr => ∃ (k : Nat) (acc : List UInt8), v = .int .i64 k ∧ k ≤ l0.length ∧ Aside0 (Lib.IsBuilderF 58 5 w.heap.size w.heap.size (Lib.byteCells acc) wr) ∧ Aside0 (Below w.heap.size w wr) ∧ w.heap.size < wr.heap.size ∧ Aside0 (ofR (ofL (l0.drop k) acc) = (r1, r2)) ∧ acc.length ≤ 4 * k) (fun v _ => l0.length - (intOf v).toNat)
  case atStart =>
    refine ⟨0, [], rfl, by omega, ⟨Lib.IsBuilderF.of (Lib.fresh_isBuilder 58 5 w)⟩, ⟨(Below.refl _ w).alloc (Nat.le_refl _) _⟩, by simp, HR, by simp⟩
  case round =>
    clear HR
    obtain ⟨k, acc, rfl, hk, hI, hbw, hsz, hacc, hal⟩ := hrel
    by_cases hlt : k < l0.length
    · obtain ⟨ad, ead, hx⟩ := Kd.at_int (Kd.C_below HR0.out hbw.out) (k : Int) (by omega) (by omega)
      cases ead
      have hd := drop_step hlt
      generalize rd l0 (k : Int) = p at hx hd
      rw [Int.toNat_natCast] at hx
      by_cases hok : ofOk p = true
      · have hacc2 : Aside0 (ofR (ofL (l0.drop (k + 1)) (acc ++ Lib.encodeRune p)) = (r1, r2)) := ⟨by have := hacc.out; rw [hd, ofL, if_pos hok] at this; exact this⟩
        clear hacc hd
        rw [ofOk, Bool.and_eq_true, Bool.and_eq_true] at hok
        obtain ⟨h1, h2, h3⟩ := hok
        have h1 := of_decide_eq_true h1
        have h2 := of_decide_eq_true h2
        have HV := Aside0.mk h3
        clear h3
        go_wp2_with (first | (go_at_call 42; refine (Tryd.utf8_ValidRune _ _).mono ?_; rintro e w' ⟨rfl, rfl⟩; rw [HV.out]) | (go_at_call 43; refine (Tryd.Builder_WriteRune_k w.heap.size w.heap.size _ _ (by omega) (by omega) _ hI.out (by rw [Lib.byteCells_length]; omega) (by omega)).mono ?_; rintro e W1 ⟨rfl, h1, b1, k1⟩; have H1 := Aside0.mk h1; clear h1))
        have hl4 := encode_le p
        have hz := b1.size
        go_roundw
        case rel =>
          refine ⟨k + 1, acc ++ Lib.encodeRune p, by go_num, by omega, ⟨?_⟩, ⟨hbw.out.trans b1⟩, ?_, hacc2, by simp; omega⟩
          · rw [Lib.byteCells_append, Lib.byteCells_encodeRune]; exact Or.inr H1.out
          · omega
        case measure => simp [intOf]; omega
      · have hacc2 : Aside0 (((⟨#[]⟩ : ByteArray), (2 : Int)) = (r1, r2)) := ⟨by have := hacc.out; rw [hd, ofL, if_neg hok] at this; exact this⟩
        clear hacc hd
        have hfin : ∀ W : World, Below w.heap.size w W → Ending.returned (.tuple #[.string ⟨#[]⟩, .int .i64 2]) = Ending.returned (.tuple #[.string r1, .int .i64 r2]) ∧ Below w.heap.size w W := by
          intro W hW
          have := hacc2.out
          cases this
          exact ⟨rfl, hW⟩
        have HF := Aside0.mk hfin
        clear hfin hacc2
        by_cases h1 : p < 0
        · clear hok
          go_wp2
          go_ret2
          exact HF.out _ hbw.out
        · by_cases h2 : 1114111 < p
          · clear hok
            go_wp2
            go_ret2
            exact HF.out _ hbw.out
          · have hv : Lib.validRune p = false := by
              have a1 : 0 ≤ p := by omega
              have a2 : p ≤ 1114111 := by omega
              rw [ofOk, decide_eq_true a1, decide_eq_true a2] at hok
              simpa using hok
            have HV := Aside0.mk hv
            clear hv hok
            go_wp2_with (go_at_call 42; refine (Tryd.utf8_ValidRune _ _).mono ?_; rintro e w' ⟨rfl, rfl⟩; rw [HV.out])
            go_ret2
            exact HF.out _ hbw.out
    · have hke : k = l0.length := by omega
      subst hke
      have hacc2 : Aside0 (((⟨acc.toArray⟩ : ByteArray), (0 : Int)) = (r1, r2)) := ⟨by have := hacc.out; rw [List.drop_length] at this; exact this⟩
      clear hacc
      go_wp2_with (go_at_call 44; refine (Tryd.Builder_String_any_k w.heap.size w.heap.size acc _ hI.out (by omega)).mono ?_; rintro e W1 ⟨rfl, _, b1, _⟩)
      go_ret2
      have := hacc2.out
      cases this
      exact ⟨rfl, hbw.out.trans b1⟩

/-! ### the two Cases -/
def caseT (up : Bool) (c : Int) : Int := if (if up = true then 97 ≤ c ∧ c < 123 else 65 ≤ c ∧ c < 91) then Go.bits .xor .u8 c 32 else c
def runes_Case.f (a0 : ByteArray) (a1 : Bool) : Option ByteArray := if a0.size ≤ 140737488355328 then some (strOfNums ((bytesOf a0).map (caseT a1))) else none
theorem bytesOf_rng (s : ByteArray) (k : Nat) : 0 ≤ rd (bytesOf s) (k : Int) ∧ rd (bytesOf s) (k : Int) < 256 := by
  unfold rd bytesOf
  rw [Int.toNat_natCast, List.getD_eq_getElem?_getD, List.getElem?_map]
  cases s.data.toList[k]? with
  | none => simp
  | some b =>
    have := b.toNat_lt
    simp
    omega
theorem run_conv_bytes (w : World) (s : ByteArray) : (convert 9 40 (.string s)).run Tryd.prog w = .ok (.slice (some ⟨w.heap.size, 0, none⟩) s.size (grownCap w s.size 0 5)) (Lib.bytesWorld w 5 s) :=
  Lib.run_convert_string_bytes w 9 40 5 s Tryd.underlying9 Tryd.underlying40 Tryd.underlying5
theorem bytesWorld_below (w : World) (s : ByteArray) : Below w.heap.size w (Lib.bytesWorld w 5 s) :=
  ⟨rfl, rfl, rfl, by rw [Lib.bytesWorld_size]; omega, fun k hk => Lib.bytesWorld_at_old w 5 s k hk⟩
/-- A row of bytes that may be written in place. -/
structure Row (w : World) (g n : Nat) (xs : List Int) : Prop where
  len : xs.length = n
  cell : ∀ j : Nat, j < n → w.cell? ⟨g, j, none⟩ = some (.int .u8 (rd xs (j : Int)))
  free : ∀ j : Nat, j < n → w.frozen? ⟨g, j, none⟩ = false
theorem bytesOf_len (s : ByteArray) : (bytesOf s).length = s.size := by simp [bytesOf]
theorem Row.new (w : World) (s : ByteArray) : Row (Lib.bytesWorld w 5 s) w.heap.size s.size (bytesOf s) where
  len := bytesOf_len s
  cell := fun j hj => by
    rw [Lib.bytesWorld_cell w 5 s j hj]
    unfold rd bytesOf
    have : j < s.data.size := hj
    simp [List.getD_eq_getElem?_getD, Array.getElem?_eq_getElem this]
  free := fun j hj => by
    have : s.size ≤ (Lib.bytesCells w 5 s).size := by simp [Lib.bytesCells]
    simp [World.frozen?, Lib.bytesWorld_at_new]
    omega
theorem Row.set {w : World} {g n : Nat} {xs : List Int} (h : Row w g n xs) (j : Nat) (hj : j < n) (x : Int) : Row (w.setCell ⟨g, j, none⟩ (.int .u8 x)) g n (xs.set j x) where
  len := by rw [List.length_set]; exact h.len
  cell := fun i hi => by
    by_cases e : j = i
    · subst e
      rw [World.cell?_setCell_same _ _ _ (h.cell j hj)]
      have : j < xs.length := by rw [h.len]; exact hj
      simp [rd, this]
    · rw [World.cell?_setCell_other _ _ _ _ (by intro e2; injection e2 with _ e3; exact e e3), h.cell i hi]
      simp [rd, List.getElem?_set_ne e]
  free := fun i hi => by rw [World.frozen?_setCell]; exact h.free i hi
theorem Row.read {w : World} {g n : Nat} {xs : List Int} (h : Row w g n xs) (hn : n ≤ 9223372036854775807) : Kd.C (Kd.int .u8) w (some ⟨g, 0, none⟩) n xs := by
  refine ⟨h.len, hn, fun _ => ⟨_, rfl, fun j p hj => ⟨[.int .u8 p], rfl, rfl, fun i u hu => ?_⟩⟩⟩
  have hjn : j < n := by rw [← h.len]; exact (List.getElem?_eq_some_iff.1 hj).1
  match i, hu with
  | 0, hu =>
    have e : u = .int .u8 p := by simpa using hu.symm
    subst e
    have := h.cell j hjn
    simp only [rd, Int.toNat_natCast, List.getD_eq_getElem?_getD, hj] at this
    show w.cell? (Addr.add ⟨g, 0, none⟩ (j * 1 + 0)) = _
    by_cases hj0 : j = 0
    · subst hj0
      simpa [Addr.add] using this
    · simpa [Addr.add, hj0] using this
  | i + 1, hu => simp at hu
/-- turned up to k. -/
def mix (T : Int → Int) (l : List Int) (k : Nat) : List Int := (l.map T).take k ++ l.drop k
theorem mix_zero (T : Int → Int) (l : List Int) : mix T l 0 = l := by simp [mix]
theorem mix_all (T : Int → Int) (l : List Int) (k : Nat) (h : l.length = k) : mix T l k = l.map T := by
  subst h
  rw [mix, List.drop_length, List.append_nil, List.take_of_length_le (by simp)]
theorem mix_rd (T : Int → Int) (l : List Int) (k : Nat) (h : k < l.length) : rd (mix T l k) (k : Int) = rd l (k : Int) := by
  simp [rd, mix, List.getD_eq_getElem?_getD, List.getElem?_append, Nat.min_eq_left (Nat.le_of_lt h), h]
theorem mix_succ (T : Int → Int) (l : List Int) (k : Nat) (h : k < l.length) : (mix T l k).set k (T (rd l (k : Int))) = mix T l (k + 1) := by
  have hl : ((l.map T).take k).length = k := by simp; omega
  unfold mix
  rw [List.set_append_right _ _ (by omega), hl, Nat.sub_self, drop_step h, List.set_cons_zero, List.take_succ_eq_append_getElem (by simpa using h)]
  simp [rd, h]
theorem mix_same (T : Int → Int) (l : List Int) (k : Nat) (h : k < l.length) (e : T (rd l (k : Int)) = rd l (k : Int)) : mix T l (k + 1) = mix T l k := by
  rw [← mix_succ T l k h, e]
  unfold mix
  have hl : ((l.map T).take k).length = k := by simp; omega
  rw [List.set_append_right _ _ (by omega), hl, Nat.sub_self, drop_step h, List.set_cons_zero]
theorem caseT_yes (c : Int) (h1 : 97 ≤ c) (h2 : c < 123) : caseT true c = Go.bits .xor .u8 c 32 := by simp [caseT, h1, h2]
theorem caseT_no (c : Int) (h : ¬ (97 ≤ c ∧ c < 123)) : caseT true c = c := by simp only [caseT, if_true, if_neg h]
theorem caseF_yes (c : Int) (h1 : 65 ≤ c) (h2 : c < 91) : caseT false c = Go.bits .xor .u8 c 32 := by simp [caseT, h1, h2]
theorem caseF_no (c : Int) (h : ¬ (65 ≤ c ∧ c < 91)) : caseT false c = c := by simp [caseT]; omega

set_option maxHeartbeats 4000000 in
set_option maxRecDepth 100000 in
theorem runes_Case.calls (a0 : ByteArray) (a1 : Bool) (r : ByteArray) (w : World) (h : runes_Case.f a0 a1 = some r) :
    Calls Tryd.prog 19 #[.string a0, .bool a1] w fun e w' => e = .returned (.string r) ∧ Below w.heap.size w w' := by
  have hs : a0.size ≤ 140737488355328 := by
    by_cases hc : a0.size ≤ 140737488355328
    · exact hc
    · rw [runes_Case.f, if_neg hc] at h
      cases h
  rw [runes_Case.f, if_pos hs] at h
  have HR := Aside0.mk (Option.some.inj h)
  clear h
  have hcv := run_conv_bytes w a0
  cases a1 with
  | true =>
    go_enter Tryd.func19, Tryd.ntmps19
    go_wp2
    go_loopw [14] (fun v wr => ∃ k : Nat, v = .int .i64 k ∧ k ≤ a0.size ∧ Aside0 (Row wr w.heap.size a0.size (mix (caseT true) (bytesOf a0) k)) ∧ Aside0 (Below w.heap.size w wr)) (fun v _ => a0.size - (intOf v).toNat)
    case atStart => exact ⟨0, rfl, by omega, ⟨by rw [mix_zero]; exact Row.new w a0⟩, ⟨bytesWorld_below w a0⟩⟩
    case round =>
      obtain ⟨k, rfl, hk, HRow, HB⟩ := hrel
      clear hcv
      have hlen := bytesOf_len a0
      by_cases hlt : k < a0.size
      · have hc := HRow.out.cell k hlt
        rw [mix_rd _ _ _ (by omega)] at hc
        have hf := HRow.out.free k hlt
        obtain ⟨c0, c1⟩ := bytesOf_rng a0 k
        have HS := Aside0.mk (mix_succ (caseT true) (bytesOf a0) k (by omega))
        have HM := Aside0.mk (mix_same (caseT true) (bytesOf a0) k (by omega))
        have HT := Aside0.mk (HRow.out.set k hlt (caseT true (rd (bytesOf a0) (k : Int))))
        generalize rd (bytesOf a0) (k : Int) = c at hc c0 c1 HS HM HT
        clear hlen
        by_cases h1 : 97 ≤ c
        · by_cases h2 : c < 123
          · have HY := Aside0.mk (caseT_yes c h1 h2)
            go_wp2
            go_roundw
            case rel => exact ⟨k + 1, by go_num, by omega, ⟨by rw [← HS.out, ← HY.out]; exact HT.out⟩, ⟨HB.out.setCell (by simp) _⟩⟩
            case measure => simp [intOf]; omega
          · have HN := Aside0.mk (caseT_no c (by omega))
            go_wp2
            go_roundw
            case rel => exact ⟨k + 1, by go_num, by omega, ⟨by rw [HM.out HN.out]; exact HRow.out⟩, HB⟩
            case measure => simp [intOf]; omega
        · have HN := Aside0.mk (caseT_no c (by omega))
          go_wp2
          go_roundw
          case rel => exact ⟨k + 1, by go_num, by omega, ⟨by rw [HM.out HN.out]; exact HRow.out⟩, HB⟩
          case measure => simp [intOf]; omega
      · have hke : k = a0.size := by omega
        subst hke
        have hrow := HRow.out
        rw [mix_all _ _ _ hlen] at hrow
        have hcs := Kd.C_string (P := Tryd.prog) (c := grownCap w a0.size 0 5) Tryd.underlying40 Tryd.underlying5 Tryd.underlying9 (hrow.read (by omega))
        clear hrow hlen
        go_wp2
        go_ret
        exact ⟨by rw [HR.out]; rfl, HB.out⟩
  | false =>
    go_enter Tryd.func19, Tryd.ntmps19
    go_wp2
    go_loopw [14] (fun v wr => ∃ k : Nat, v = .int .i64 k ∧ k ≤ a0.size ∧ Aside0 (Row wr w.heap.size a0.size (mix (caseT false) (bytesOf a0) k)) ∧ Aside0 (Below w.heap.size w wr)) (fun v _ => a0.size - (intOf v).toNat)
    case atStart => exact ⟨0, rfl, by omega, ⟨by rw [mix_zero]; exact Row.new w a0⟩, ⟨bytesWorld_below w a0⟩⟩
    case round =>
      obtain ⟨k, rfl, hk, HRow, HB⟩ := hrel
      clear hcv
      have hlen := bytesOf_len a0
      by_cases hlt : k < a0.size
      · have hc := HRow.out.cell k hlt
        rw [mix_rd _ _ _ (by omega)] at hc
        have hf := HRow.out.free k hlt
        obtain ⟨c0, c1⟩ := bytesOf_rng a0 k
        have HS := Aside0.mk (mix_succ (caseT false) (bytesOf a0) k (by omega))
        have HM := Aside0.mk (mix_same (caseT false) (bytesOf a0) k (by omega))
        have HT := Aside0.mk (HRow.out.set k hlt (caseT false (rd (bytesOf a0) (k : Int))))
        generalize rd (bytesOf a0) (k : Int) = c at hc c0 c1 HS HM HT
        clear hlen
        by_cases h1 : 65 ≤ c
        · by_cases h2 : c < 91
          · have HY := Aside0.mk (caseF_yes c h1 h2)
            go_wp2
            go_roundw
            case rel => exact ⟨k + 1, by go_num, by omega, ⟨by rw [← HS.out, ← HY.out]; exact HT.out⟩, ⟨HB.out.setCell (by simp) _⟩⟩
            case measure => simp [intOf]; omega
          · have HN := Aside0.mk (caseF_no c (by omega))
            go_wp2
            go_roundw
            case rel => exact ⟨k + 1, by go_num, by omega, ⟨by rw [HM.out HN.out]; exact HRow.out⟩, HB⟩
            case measure => simp [intOf]; omega
        · have HN := Aside0.mk (caseF_no c (by omega))
          go_wp2
          go_roundw
          case rel => exact ⟨k + 1, by go_num, by omega, ⟨by rw [HM.out HN.out]; exact HRow.out⟩, HB⟩
          case measure => simp [intOf]; omega
      · have hke : k = a0.size := by omega
        subst hke
        have hrow := HRow.out
        rw [mix_all _ _ _ hlen] at hrow
        have hcs := Kd.C_string (P := Tryd.prog) (c := grownCap w a0.size 0 5) Tryd.underlying40 Tryd.underlying5 Tryd.underlying9 (hrow.read (by omega))
        clear hrow hlen
        go_wp2
        go_ret
        exact ⟨by rw [HR.out]; rfl, HB.out⟩
def colanderref01_Case.f (a0 : ByteArray) (a1 : Bool) : Option ByteArray := if a0.size ≤ 140737488355328 then some (strOfNums ((bytesOf a0).map (caseT a1))) else none
set_option maxHeartbeats 4000000 in
set_option maxRecDepth 100000 in
theorem colanderref01_Case.calls (a0 : ByteArray) (a1 : Bool) (r : ByteArray) (w : World) (h : colanderref01_Case.f a0 a1 = some r) :
    Calls Tryd.prog 20 #[.string a0, .bool a1] w fun e w' => e = .returned (.string r) ∧ Below w.heap.size w w' := by
  have hs : a0.size ≤ 140737488355328 := by
    by_cases hc : a0.size ≤ 140737488355328
    · exact hc
    · rw [colanderref01_Case.f, if_neg hc] at h
      cases h
  rw [colanderref01_Case.f, if_pos hs] at h
  have HR := Aside0.mk (Option.some.inj h)
  clear h
  have hcv := run_conv_bytes w a0
  cases a1 with
  | true =>
    go_enter Tryd.func20, Tryd.ntmps20
    go_wp2
    go_loopw [6] (fun v wr => ∃ k : Nat, v = .int .i64 k ∧ k ≤ a0.size ∧ Aside0 (Row wr w.heap.size a0.size (mix (caseT true) (bytesOf a0) k)) ∧ Aside0 (Below w.heap.size w wr)) (fun v _ => a0.size - (intOf v).toNat)
    case atStart => exact ⟨0, rfl, by omega, ⟨by rw [mix_zero]; exact Row.new w a0⟩, ⟨bytesWorld_below w a0⟩⟩
    case round =>
      obtain ⟨k, rfl, hk, HRow, HB⟩ := hrel
      clear hcv
      have hlen := bytesOf_len a0
      by_cases hlt : k < a0.size
      · have hc := HRow.out.cell k hlt
        rw [mix_rd _ _ _ (by omega)] at hc
        have hf := HRow.out.free k hlt
        obtain ⟨c0, c1⟩ := bytesOf_rng a0 k
        have HS := Aside0.mk (mix_succ (caseT true) (bytesOf a0) k (by omega))
        have HM := Aside0.mk (mix_same (caseT true) (bytesOf a0) k (by omega))
        have HT := Aside0.mk (HRow.out.set k hlt (caseT true (rd (bytesOf a0) (k : Int))))
        generalize rd (bytesOf a0) (k : Int) = c at hc c0 c1 HS HM HT
        clear hlen
        by_cases h1 : 97 ≤ c
        · by_cases h2 : c ≤ 122
          · have HY := Aside0.mk (caseT_yes c h1 (by omega))
            go_wp2
            go_roundw
            case rel => exact ⟨k + 1, by go_num, by omega, ⟨by rw [← HS.out, ← HY.out]; exact HT.out⟩, ⟨HB.out.setCell (by simp) _⟩⟩
            case measure => simp [intOf]; omega
          · have HN := Aside0.mk (caseT_no c (by omega))
            go_wp2
            go_roundw
            case rel => exact ⟨k + 1, by go_num, by omega, ⟨by rw [HM.out HN.out]; exact HRow.out⟩, HB⟩
            case measure => simp [intOf]; omega
        · have HN := Aside0.mk (caseT_no c (by omega))
          go_wp2
          go_roundw
          case rel => exact ⟨k + 1, by go_num, by omega, ⟨by rw [HM.out HN.out]; exact HRow.out⟩, HB⟩
          case measure => simp [intOf]; omega
      · have hke : k = a0.size := by omega
        subst hke
        have hrow := HRow.out
        rw [mix_all _ _ _ hlen] at hrow
        have hcs := Kd.C_string (P := Tryd.prog) (c := grownCap w a0.size 0 5) Tryd.underlying40 Tryd.underlying5 Tryd.underlying9 (hrow.read (by omega))
        clear hrow hlen
        go_wp2
        go_ret
        exact ⟨by rw [HR.out]; rfl, HB.out⟩
  | false =>
    go_enter Tryd.func20, Tryd.ntmps20
    go_wp2
    go_loopw [6] (fun v wr => ∃ k : Nat, v = .int .i64 k ∧ k ≤ a0.size ∧ Aside0 (Row wr w.heap.size a0.size (mix (caseT false) (bytesOf a0) k)) ∧ Aside0 (Below w.heap.size w wr)) (fun v _ => a0.size - (intOf v).toNat)
    case atStart => exact ⟨0, rfl, by omega, ⟨by rw [mix_zero]; exact Row.new w a0⟩, ⟨bytesWorld_below w a0⟩⟩
    case round =>
      obtain ⟨k, rfl, hk, HRow, HB⟩ := hrel
      clear hcv
      have hlen := bytesOf_len a0
      by_cases hlt : k < a0.size
      · have hc := HRow.out.cell k hlt
        rw [mix_rd _ _ _ (by omega)] at hc
        have hf := HRow.out.free k hlt
        obtain ⟨c0, c1⟩ := bytesOf_rng a0 k
        have HS := Aside0.mk (mix_succ (caseT false) (bytesOf a0) k (by omega))
        have HM := Aside0.mk (mix_same (caseT false) (bytesOf a0) k (by omega))
        have HT := Aside0.mk (HRow.out.set k hlt (caseT false (rd (bytesOf a0) (k : Int))))
        generalize rd (bytesOf a0) (k : Int) = c at hc c0 c1 HS HM HT
        clear hlen
        by_cases h1 : 65 ≤ c
        · by_cases h2 : c ≤ 90
          · have HY := Aside0.mk (caseF_yes c h1 (by omega))
            go_wp2
            go_roundw
            case rel => exact ⟨k + 1, by go_num, by omega, ⟨by rw [← HS.out, ← HY.out]; exact HT.out⟩, ⟨HB.out.setCell (by simp) _⟩⟩
            case measure => simp [intOf]; omega
          · have HN := Aside0.mk (caseF_no c (by omega))
            go_wp2
            go_roundw
            case rel => exact ⟨k + 1, by go_num, by omega, ⟨by rw [HM.out HN.out]; exact HRow.out⟩, HB⟩
            case measure => simp [intOf]; omega
        · have HN := Aside0.mk (caseF_no c (by omega))
          go_wp2
          go_roundw
          case rel => exact ⟨k + 1, by go_num, by omega, ⟨by rw [HM.out HN.out]; exact HRow.out⟩, HB⟩
          case measure => simp [intOf]; omega
      · have hke : k = a0.size := by omega
        subst hke
        have hrow := HRow.out
        rw [mix_all _ _ _ hlen] at hrow
        have hcs := Kd.C_string (P := Tryd.prog) (c := grownCap w a0.size 0 5) Tryd.underlying40 Tryd.underlying5 Tryd.underlying9 (hrow.read (by omega))
        clear hrow hlen
        go_wp2
        go_ret
        exact ⟨by rw [HR.out]; rfl, HB.out⟩
end Go.Proofs.YtfnipedeldhmgaaDoor
