/- The reference's functions over the pieces of a text, and the statement about code points over plain values. -/
import Derived.Test.YtfnipedeldhmgaaDoorPure1
import Derived.Test.YtfnipedeldhmgaaDoorPx5
import Derived.Test.YtfnipedeldhmgaaDoorPx3
import Derived.Test.YtfnipedeldhmgaaDoorPx1
import Derived.Test.YtfnipedeldhmgaaDoorPx2
import Derived.Lib.TrimUEq
import Derived.Lib.MapLaws
import Derived.Lib.ValidLaws
namespace Go.Proofs.YtfnipedeldhmgaaDoor
open Go.RowKit Go.Proofs.YtfnipedeldhmgaaDoorW.PrintWords Go.Proofs.YtfnipedeldhmgaaDoorW.PrintLast Go.Proofs.YtfnipedeldhmgaaDoorW.PrintMore
open Go.Proofs.YtfnipedeldhmgaaDoor.P
set_option linter.unusedVariables false
set_option linter.unusedSimpArgs false

theorem mono_from {α : Type} {g : Nat → Option α} {r : α} (hg : ∀ k, LeO (g k) (g (k + 1))) {j : Nat} (h : g j = some r) : ∀ k, j ≤ k → g k = some r := fun k hk => at_rounds hg hk h
theorem heads_all (k : Nat) (hk : 30 ≤ k) : colanderlaw01_heads.f k = some true := mono_from (fun k => colanderlaw01_heads.mono k) (show colanderlaw01_heads.f 30 = some true by decide +kernel) k hk

theorem size_list (s : ByteArray) : s.data.toList.length = s.size := by simp
theorem decode_fits (s : ByteArray) (pos : Nat) (hp : pos < s.size) : pos + (Utf8.decode s pos).2 ≤ s.size := by
  have hne : s.data.toList.drop pos ≠ [] := by
    intro e
    have := congrArg List.length e
    rw [List.length_drop, size_list] at this
    simp at this
    omega
  have := Lib.decodeL_le _ hne
  rw [Lib.decodeL_drop, List.length_drop, size_list] at this
  omega
theorem wrap_on (pos width : Nat) (s : ByteArray) (hs : s.size ≤ 1099511627776) (hf : pos + width ≤ s.size) : wrap64 ((pos : Int) + (width : Int)) = ((pos + width : Nat) : Int) := by rw [w64] <;> omega

/-! ### the pieces -/
theorem segs_more (s : ByteArray) : ∀ (b b' pos : Nat), s.size ≤ pos + b → s.size ≤ pos + b' → segs s b pos = segs s b' pos := by
  intro b
  induction b with
  | zero =>
    intro b' pos h h'
    rw [segs_end s 0 pos (by omega), segs_end s b' pos (by omega)]
  | succ b ih =>
    intro b' pos h h'
    by_cases hp : pos < s.size
    · obtain ⟨c, rfl⟩ : ∃ c, b' = c + 1 := ⟨b' - 1, by omega⟩
      have := width_pos s pos hp
      rw [segs_step s b pos hp, segs_step s c pos hp, ih c _ (by omega) (by omega)]
    · rw [segs_end s _ pos hp, segs_end s _ pos hp]
theorem segs_len (s : ByteArray) : ∀ (b pos : Nat), (segs s b pos).length ≤ s.size - pos := by
  intro b
  induction b with
  | zero => intro pos; simp [segs]
  | succ b ih =>
    intro pos
    by_cases hp : pos < s.size
    · have h1 := width_pos s pos hp
      have h2 := ih (pos + (Utf8.decode s pos).2)
      rw [segs_step s b pos hp, List.length_cons]
      omega
    · rw [segs_end s _ pos hp]
      simp

theorem ref_Points (s : ByteArray) (hs : s.size ≤ 1099511627776) : ∀ (b pos : Nat) (acc : List Int) (k : Nat), s.size ≤ pos + b → acc.length ≤ pos → pos ≤ s.size → b + 8 ≤ k →
    colanderref01_Points.l0 k s acc pos = some (acc ++ (segs s b pos).map fun p => (p.2 : Int)) := by
  intro b
  induction b with
  | zero =>
    intro pos acc k h ha hp hk
    obtain ⟨k, rfl⟩ : ∃ m, k = m + 1 := ⟨k - 1, by omega⟩
    simp only [colanderref01_Points.l0]
    rw [if_neg (by omega), segs_end s 0 pos (by omega)]
    simp
  | succ b ih =>
    intro pos acc k h ha hp hk
    obtain ⟨k, rfl⟩ : ∃ m, k = m + 1 := ⟨k - 1, by omega⟩
    simp only [colanderref01_Points.l0]
    by_cases hlt : pos < s.size
    · have hw := width_pos s pos hlt
      have hf := decode_fits s pos hlt
      rw [if_pos (by omega), piece_eq s pos hlt (by omega) k (by omega)]
      simp only [Option.bind_some]
      rw [if_pos (by omega), wrap_on pos _ s hs hf, ih _ _ k (by omega) (by simp; omega) hf (by omega), segs_step s b pos hlt]
      simp
    · rw [if_neg (by omega), segs_end s _ pos hlt]
      simp
theorem ref_Points_f (s : ByteArray) (hs : s.size ≤ 1099511627776) (k : Nat) (hk : s.size + 8 ≤ k) : colanderref01_Points.f k s = some ((segs s s.size 0).map fun p => (p.2 : Int)) := by
  have := ref_Points s hs s.size 0 [] k (by omega) (by simp) (by omega) (by omega)
  simpa [colanderref01_Points.f] using this

theorem ref_Starts (s : ByteArray) (hs : s.size ≤ 1099511627776) : ∀ (b pos : Nat) (acc : List Int) (k : Nat), s.size ≤ pos + b → acc.length ≤ pos → pos ≤ s.size → b + 8 ≤ k →
    colanderref01_Starts.l0 k s acc pos = some (acc ++ ((segs s b pos).map fun p => (p.1 : Int)) ++ [(s.size : Int)]) := by
  intro b
  induction b with
  | zero =>
    intro pos acc k h ha hp hk
    obtain ⟨k, rfl⟩ : ∃ m, k = m + 1 := ⟨k - 1, by omega⟩
    simp only [colanderref01_Starts.l0]
    rw [if_neg (by omega), if_pos (by omega), segs_end s 0 pos (by omega)]
    simp
  | succ b ih =>
    intro pos acc k h ha hp hk
    obtain ⟨k, rfl⟩ : ∃ m, k = m + 1 := ⟨k - 1, by omega⟩
    simp only [colanderref01_Starts.l0]
    by_cases hlt : pos < s.size
    · have hw := width_pos s pos hlt
      have hf := decode_fits s pos hlt
      rw [if_pos (by omega), if_pos (by omega), piece_eq s pos hlt (by omega) k (by omega)]
      simp only [Option.bind_some]
      rw [wrap_on pos _ s hs hf, ih _ _ k (by omega) (by simp; omega) hf (by omega), segs_step s b pos hlt]
      simp
    · rw [if_neg (by omega), if_pos (by omega), segs_end s _ pos hlt]
      simp
def startsL (s : ByteArray) : List Int := ((segs s s.size 0).map fun p => (p.1 : Int)) ++ [(s.size : Int)]
theorem ref_Starts_f (s : ByteArray) (hs : s.size ≤ 1099511627776) (k : Nat) (hk : s.size + 8 ≤ k) : colanderref01_Starts.f k s = some (startsL s) := by
  have := ref_Starts s hs s.size 0 [] k (by omega) (by simp) (by omega) (by omega)
  simpa [colanderref01_Starts.f, startsL] using this

theorem valid_drop (s : ByteArray) : ∀ (b pos : Nat) (k : Nat), s.size ≤ pos + b → pos ≤ s.size → s.size ≤ 1099511627776 → b + 8 ≤ k →
    colanderref01_Valid.l0 k s pos = some (Lib.validD (s.data.toList.drop pos)) := by
  intro b
  induction b with
  | zero =>
    intro pos k h hp hs hk
    obtain ⟨k, rfl⟩ : ∃ m, k = m + 1 := ⟨k - 1, by omega⟩
    simp only [colanderref01_Valid.l0]
    rw [if_neg (by omega), List.drop_of_length_le (by rw [size_list]; omega)]
    rfl
  | succ b ih =>
    intro pos k h hp hs hk
    obtain ⟨k, rfl⟩ : ∃ m, k = m + 1 := ⟨k - 1, by omega⟩
    simp only [colanderref01_Valid.l0]
    by_cases hlt : pos < s.size
    · have hw := width_pos s pos hlt
      have hf := decode_fits s pos hlt
      have hne : s.data.toList.drop pos ≠ [] := by
        intro e
        have := congrArg List.length e
        rw [List.length_drop, size_list] at this
        simp at this
        omega
      rw [if_pos (by omega), piece_eq s pos hlt (by omega) k (by omega)]
      simp only [Option.bind_some]
      rw [wrap_on pos _ s hs hf, ih _ k (by omega) hf hs (by omega), Lib.validD_step _ hne, Lib.decodeL_drop, List.drop_drop]
      unfold okAt
      by_cases hb : (Utf8.decode s pos).1 = 65533 ∧ (Utf8.decode s pos).2 = 1
      · simp [hb]
      · simp [hb]
    · rw [if_neg (by omega), List.drop_of_length_le (by rw [size_list]; omega)]
      rfl
theorem ref_Valid_f (s : ByteArray) (hs : s.size ≤ 1099511627776) (k : Nat) (hk : s.size + 8 ≤ k) : colanderref01_Valid.f k s = some (Lib.validD s.data.toList) := by
  have := valid_drop s s.size 0 k (by omega) (by omega) hs (by omega)
  simpa [colanderref01_Valid.f] using this
theorem runeCount_segs (s : ByteArray) : ∀ b pos, Lib.runeCountFrom s b pos = (segs s b pos).length := by
  intro b
  induction b with
  | zero => intro pos; rfl
  | succ b ih =>
    intro pos
    by_cases hp : pos < s.size
    · rw [segs_step s b pos hp, List.length_cons, ← ih]
      simp [Lib.runeCountFrom, hp]
      omega
    · rw [segs_end s _ pos hp, Lib.runeCountFrom_end s _ pos hp]
      rfl
theorem ref_Count_f (s : ByteArray) (hs : s.size ≤ 1099511627776) (k : Nat) (hk : s.size + 8 ≤ k) : colanderref01_Count.f k s = some ((segs s s.size 0).length : Int) := by
  have hl := segs_len s s.size 0
  unfold colanderref01_Count.f
  rw [ref_Starts_f s hs k hk]
  simp only [Option.bind_some, startsL]
  rw [w64 (by simp <;> omega) (by simp <;> omega)]
  simp
theorem our_Count_f (s : ByteArray) (hs : s.size ≤ 1099511627776) : runes_Count.f s = some ((segs s s.size 0).length : Int) := by
  unfold runes_Count.f utf8_RuneCountInString.f
  rw [if_pos (by omega)]
  simp only [Option.bind_some, Lib.runeCount]
  rw [runeCount_segs]
theorem our_Valid_f (s : ByteArray) (hs : s.size ≤ 1099511627776) : runes_Valid.f s = some (Lib.validD s.data.toList) := by
  unfold runes_Valid.f utf8_ValidString.f
  rw [if_pos (by omega)]
  rfl

/-! ### Of -/
def intsOf (l : List UInt8) : List Int := l.map fun b => (b.toNat : Int)
theorem intsOf_append (a b : List UInt8) : intsOf (a ++ b) = intsOf a ++ intsOf b := by simp [intsOf]
theorem strOf_intsOf (l : List UInt8) : strOfNums (intsOf l) = ⟨l.toArray⟩ := by
  unfold strOfNums intsOf
  rw [List.map_map]
  congr 2
  have : ((fun n : Int => UInt8.ofNat n.toNat) ∘ fun b : UInt8 => (b.toNat : Int)) = id := by
    funext b
    simp
  rw [this, List.map_id]
theorem intsOf_encode (p : Int) : intsOf (Lib.encodeRune p) = Lib.encodeRuneZ p := by
  unfold intsOf Lib.encodeRune
  rw [List.map_map]
  have h : ∀ x ∈ Lib.encodeRuneZ p, ((fun b : UInt8 => (b.toNat : Int)) ∘ fun x : Int => x.toNat.toUInt8) x = x := by
    intro x hx
    have := Lib.encodeRuneZ_byte p x hx
    have h2 : x.toNat < 256 := by omega
    simp [Nat.mod_eq_of_lt h2]
    omega
  rw [List.map_congr_left h, List.map_id']

theorem i64_keep (n : Int) (h0 : 0 ≤ n) (h1 : n < 2 ^ 40) : IntKind.i64.wrap n = n := by
  rw [IntKind.wrap_i64]
  omega
theorem i64_and63 (x : Int) (h0 : 0 ≤ x) (h1 : x < 1099511627776) : Go.bits .and .i64 x 63 = x % 64 := bits_mask .i64 40 (by decide) i64_keep 6 (by decide) x h0 (by omega)
theorem i64_or128 (y : Int) (h0 : 0 ≤ y) (h1 : y < 64) : Go.bits .or .i64 128 y = 128 + y := bits_join .i64 40 (by decide) i64_keep 6 128 y (by omega) (by decide) (by decide) h0 (by omega) (by omega)
theorem i64_or192 (y : Int) (h0 : 0 ≤ y) (h1 : y < 64) : Go.bits .or .i64 192 y = 192 + y := bits_join .i64 40 (by decide) i64_keep 6 192 y (by omega) (by decide) (by decide) h0 (by omega) (by omega)
theorem i64_or224 (y : Int) (h0 : 0 ≤ y) (h1 : y < 32) : Go.bits .or .i64 224 y = 224 + y := bits_join .i64 40 (by decide) i64_keep 5 224 y (by omega) (by decide) (by decide) h0 (by omega) (by omega)
theorem i64_or240 (y : Int) (h0 : 0 ≤ y) (h1 : y < 16) : Go.bits .or .i64 240 y = 240 + y := bits_join .i64 40 (by decide) i64_keep 4 240 y (by omega) (by decide) (by decide) h0 (by omega) (by omega)
theorem ofOk_iff (p : Int) : ofOk p = true ↔ 0 ≤ p ∧ p ≤ 1114111 ∧ (p < 55296 ∨ 57343 < p) := by
  unfold ofOk Lib.validRune
  simp only [Bool.and_eq_true, decide_eq_true_eq]
  omega
theorem right_ofOk (p : Int) : colanderref01_Right.f p = some (ofOk p) := by
  by_cases h0 : 0 ≤ p
  · obtain ⟨n, rfl⟩ := Int.eq_ofNat_of_zero_le h0
    rw [right_eq]
    congr 1
    rw [Bool.eq_iff_iff, ofOk_iff]
    simp
    omega
  · have : ofOk p = false := by
      rw [Bool.eq_false_iff]
      intro h
      rw [ofOk_iff] at h
      exact h0 h.1
    unfold colanderref01_Right.f
    rw [if_neg (by omega), this]
theorem put_eq (l : List Int) (p : Int) (h : ofOk p = true) (hl : l.length ≤ 1099511627776) : colanderref01_put.f l p = some (l ++ Lib.encodeRuneZ p) := by
  rw [ofOk_iff] at h
  obtain ⟨h0, h1, h2⟩ := h
  unfold colanderref01_put.f
  by_cases a : p < 128
  · rw [if_pos a, if_pos (by omega), Lib.encodeRuneZ_one h0 (by omega)]
    rw [show p % 256 = p by omega]
  rw [if_neg a]
  by_cases b : p < 2048
  · rw [if_pos b, Lib.encodeRuneZ_two (by omega) (by omega)]
    simp only [Option.bind_some]
    rw [if_pos (by simp; omega), i64_and63 p h0 (by omega), i64_or192 _ (by omega) (by omega), i64_or128 _ (by omega) (by omega)]
    rw [show (192 + p / 64) % 256 = 192 + p / 64 by omega, show (128 + p % 64) % 256 = 128 + p % 64 by omega]
  rw [if_neg b]
  by_cases c : p < 65536
  · rw [if_pos c, Lib.encodeRuneZ_three (by omega)]
    simp only [Option.bind_some]
    rw [if_pos (by simp; omega), i64_and63 p h0 (by omega), i64_and63 (p / 64) (by omega) (by omega), i64_or224 _ (by omega) (by omega), i64_or128 _ (by omega) (by omega), i64_or128 _ (by omega) (by omega)]
    rw [show (224 + p / 4096) % 256 = 224 + p / 4096 by omega, show (128 + p / 64 % 64) % 256 = 128 + p / 64 % 64 by omega, show (128 + p % 64) % 256 = 128 + p % 64 by omega]
  rw [if_neg c, Lib.encodeRuneZ_four (by omega) (by omega)]
  simp only [Option.bind_some]
  rw [if_pos (by simp; omega), i64_and63 p h0 (by omega), i64_and63 (p / 64) (by omega) (by omega), i64_and63 (p / 4096) (by omega) (by omega), i64_or240 _ (by omega) (by omega), i64_or128 _ (by omega) (by omega), i64_or128 _ (by omega) (by omega), i64_or128 _ (by omega) (by omega)]
  rw [show (240 + p / 262144) % 256 = 240 + p / 262144 by omega, show (128 + p / 4096 % 64) % 256 = 128 + p / 4096 % 64 by omega, show (128 + p / 64 % 64) % 256 = 128 + p / 64 % 64 by omega, show (128 + p % 64) % 256 = 128 + p % 64 by omega]
theorem ref_Of (l : List Int) (hl : l.length ≤ 17179869184) : ∀ (b i : Nat) (acc : List UInt8) (k : Nat), l.length ≤ i + b → i ≤ l.length → acc.length ≤ 4 * i → b + 1 ≤ k →
    colanderref01_Of.l0 k l (intsOf acc) i = some (ofR (ofL (l.drop i) acc)) := by
  intro b
  induction b with
  | zero =>
    intro i acc k h hi ha hk
    obtain ⟨k, rfl⟩ : ∃ m, k = m + 1 := ⟨k - 1, by omega⟩
    simp only [colanderref01_Of.l0]
    rw [if_neg (by omega), List.drop_of_length_le (by omega), strOf_intsOf]
    rfl
  | succ b ih =>
    intro i acc k h hi ha hk
    obtain ⟨k, rfl⟩ : ∃ m, k = m + 1 := ⟨k - 1, by omega⟩
    simp only [colanderref01_Of.l0]
    by_cases hlt : i < l.length
    · rw [if_pos (by omega), if_pos (by omega), right_ofOk, drop_step hlt]
      simp only [Option.bind_some, ofL]
      generalize rd l (i : Int) = p
      by_cases hok : ofOk p = true
      · have he := encode_le p
        rw [if_pos hok, if_pos hok, put_eq _ _ hok (by simp [intsOf]; omega)]
        simp only [Option.bind_some]
        rw [← intsOf_encode, ← intsOf_append, show wrap64 ((i : Int) + 1) = ((i + 1 : Nat) : Int) by rw [w64] <;> omega]
        exact ih (i + 1) _ k (by omega) (by omega) (by simp; omega) (by omega)
      · rw [if_neg hok, if_neg hok]
        rfl
    · rw [if_neg (by omega), List.drop_of_length_le (by omega), strOf_intsOf]
      rfl
theorem ref_Of_f (l : List Int) (hl : l.length ≤ 17179869184) (k : Nat) (hk : l.length + 1 ≤ k) : colanderref01_Of.f k l = some (ofR (ofL l [])) := by
  have := ref_Of l hl l.length 0 [] k (by omega) (by omega) (by simp) hk
  simpa [colanderref01_Of.f, intsOf] using this
theorem our_Of_f (l : List Int) (hl : l.length ≤ 17179869184) : runes_Of.f l = some (ofR (ofL l [])) := by
  unfold runes_Of.f
  rw [if_pos (by omega)]

/-! ### Clean -/
theorem rune_ok (s : ByteArray) (pos : Nat) (hp : pos < s.size) : ofOk ((Utf8.decode s pos).1 : Int) = true := by
  rw [ofOk_iff]
  have h0 := byteN_lt s pos; have h1 := byteN_lt s (pos + 1); have h2 := byteN_lt s (pos + 2); have h3 := byteN_lt s (pos + 3)
  rw [decode_byteN s pos hp]
  repeat' split
  all_goals (simp; try omega)
theorem ofL_segs (s : ByteArray) : ∀ (b pos : Nat) (acc : List UInt8), ofL ((segs s b pos).map fun p => (p.2 : Int)) acc = some (acc ++ cleanL s b pos) := by
  intro b
  induction b with
  | zero => intro pos acc; simp [segs, ofL, cleanL]
  | succ b ih =>
    intro pos acc
    by_cases hp : pos < s.size
    · rw [segs_step s b pos hp, cleanL_step s b pos hp, List.map_cons, ofL, if_pos (rune_ok s pos hp), ih, List.append_assoc]
    · rw [segs_end s _ pos hp, cleanL_end s _ pos hp]
      simp [ofL]
theorem ref_Clean_f (l : List Int) (hl : l.length ≤ 17179869184) (k : Nat) (hk : l.length + 8 ≤ k) : colanderref01_Clean.f k l = some ⟨(cleanL (strOfNums l) l.length 0).toArray⟩ := by
  have hz := strOfNums_size l
  unfold colanderref01_Clean.f
  have hsl := segs_len (strOfNums l) (strOfNums l).size 0
  rw [ref_Points_f _ (by omega) k (by omega)]
  simp only [Option.bind_some]
  rw [ref_Of_f _ (by simp; omega) k (by simp; omega), ofL_segs, hz]
  rfl
theorem our_Clean_f (l : List Int) (hl : l.length ≤ 17179869184) : runes_Clean.f l = some ⟨(cleanL (strOfNums l) l.length 0).toArray⟩ := by
  have hz := strOfNums_size l
  unfold runes_Clean.f
  rw [if_pos (by omega), hz]
theorem our_Points_f (s : ByteArray) (hs : s.size ≤ 1099511627776) : runes_Points.f s = some ((segs s s.size 0).map fun p => (p.2 : Int)) := by
  unfold runes_Points.f
  rw [if_pos (by omega)]
theorem ref_Ints (l : List Int) (hl : l.length ≤ 1099511627776) : ∀ (b i k : Nat), l.length ≤ i + b → b + 1 ≤ k → i ≤ l.length → colanderref01_Ints.l0 k l l i = some true := by
  intro b
  induction b with
  | zero =>
    intro i k h hk hi
    obtain ⟨k, rfl⟩ : ∃ m, k = m + 1 := ⟨k - 1, by omega⟩
    simp only [colanderref01_Ints.l0]
    rw [if_neg (by omega)]
  | succ b ih =>
    intro i k h hk hi
    obtain ⟨k, rfl⟩ : ∃ m, k = m + 1 := ⟨k - 1, by omega⟩
    simp only [colanderref01_Ints.l0]
    by_cases hlt : i < l.length
    · rw [if_pos (by omega), if_pos (by omega), if_pos (by omega), if_pos trivial, show wrap64 ((i : Int) + 1) = ((i + 1 : Nat) : Int) by rw [w64] <;> omega]
      exact ih (i + 1) k (by omega) (by omega) (by omega)
    · rw [if_neg (by omega)]
theorem ref_Ints_f (l : List Int) (hl : l.length ≤ 1099511627776) (k : Nat) (hk : l.length + 1 ≤ k) : colanderref01_Ints.f k l l = some true := by
  unfold colanderref01_Ints.f
  rw [if_pos rfl]
  exact ref_Ints l hl l.length 0 k (by omega) hk (by omega)

end Go.Proofs.YtfnipedeldhmgaaDoor
