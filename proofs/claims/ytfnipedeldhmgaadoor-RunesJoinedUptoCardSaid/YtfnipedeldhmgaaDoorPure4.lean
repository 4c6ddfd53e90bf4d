/- Slices of a text by its pieces, ours and the reference's; the statement about a text and its code points. -/
import Derived.Test.YtfnipedeldhmgaaDoorPure3
import Derived.Test.YtfnipedeldhmgaaDoorPx7
namespace Go.Proofs.YtfnipedeldhmgaaDoor
open Go.RowKit Go.Proofs.YtfnipedeldhmgaaDoorW.PrintWords Go.Proofs.YtfnipedeldhmgaaDoorW.PrintLast Go.Proofs.YtfnipedeldhmgaaDoorW.PrintMore
open Go.Proofs.YtfnipedeldhmgaaDoor.P
set_option linter.unusedVariables false
set_option linter.unusedSimpArgs false

theorem ext_list (s : ByteArray) (p q : Nat) : (s.extract p q).data.toList = (s.data.toList.take q).drop p := by
  rw [Lib.extract_data, List.drop_take]
theorem ext_end (s : ByteArray) (p : Nat) : (s.extract p s.size).data.toList = s.data.toList.drop p := by
  rw [ext_list, List.take_of_length_le (by rw [size_list]; exact Nat.le_refl _)]
theorem ext_size (s : ByteArray) (p : Nat) : (s.extract p s.size).size = s.size - p := by simp
theorem decode_ext (s : ByteArray) (p i : Nat) : Utf8.decode (s.extract p s.size) i = Utf8.decode s (p + i) := by
  rw [← Lib.decodeL_drop, ← Lib.decodeL_drop, ext_end, List.drop_drop]
theorem segs_ext (s : ByteArray) (p : Nat) (hp : p ≤ s.size) : ∀ b i, segs (s.extract p s.size) b i = (segs s b (p + i)).map fun q => (q.1 - p, q.2) := by
  intro b
  induction b with
  | zero => intro i; rfl
  | succ b ih =>
    intro i
    have hz := ext_size s p
    by_cases hi : i < (s.extract p s.size).size
    · rw [segs_step _ b i hi, segs_step s b (p + i) (by omega), decode_ext, ih, List.map_cons, Nat.add_assoc]
      simp
    · rw [segs_end _ _ i hi, segs_end s _ (p + i) (by omega)]
      rfl
theorem segs_at (s : ByteArray) : ∀ (b pos : Nat), s.size ≤ pos + b → ∀ (k : Nat) (q : Nat × Nat), (segs s b pos)[k]? = some q → pos ≤ q.1 ∧ q.1 < s.size ∧ q.2 = (Utf8.decode s q.1).1 ∧ segs s b q.1 = (segs s b pos).drop k := by
  intro b
  induction b with
  | zero => intro pos h k q hq; simp [segs] at hq
  | succ b ih =>
    intro pos h k q hq
    by_cases hp : pos < s.size
    · have hw := width_pos s pos hp
      rw [segs_step s b pos hp] at hq ⊢
      cases k with
      | zero =>
        simp at hq
        subst hq
        exact ⟨Nat.le_refl _, hp, rfl, by rw [segs_step s b pos hp, List.drop_zero]⟩
      | succ k =>
        rw [List.getElem?_cons_succ] at hq
        obtain ⟨h1, h2, h3, h4⟩ := ih _ (by omega) k q hq
        refine ⟨by omega, h2, h3, ?_⟩
        rw [List.drop_succ_cons, ← h4]
        exact segs_more s _ _ _ (by omega) (by omega)
    · rw [segs_end s _ pos hp] at hq
      simp at hq
abbrev S (s : ByteArray) : List (Nat × Nat) := segs s s.size 0
/-- the byte at which piece number k stands, or the end. -/
def st (s : ByteArray) (k : Nat) : Nat := match (S s)[k]? with
  | some p => p.1
  | none => s.size
theorem offTo_st (s : ByteArray) (n : Int) : offTo s.size (S s) n = st s n.toNat := rfl
theorem st_end (s : ByteArray) (k : Nat) (h : (S s).length ≤ k) : st s k = s.size := by
  unfold st
  rw [List.getElem?_eq_none h]
theorem st_some (s : ByteArray) (k : Nat) (h : k < (S s).length) : ∃ q, (S s)[k]? = some q ∧ st s k = q.1 ∧ q.1 < s.size ∧ segs s s.size q.1 = (S s).drop k := by
  have e := List.getElem?_eq_getElem h
  obtain ⟨_, h2, _, h4⟩ := segs_at s s.size 0 (by omega) k _ e
  exact ⟨_, e, by unfold st; rw [e], h2, h4⟩
theorem st_le (s : ByteArray) (k : Nat) : st s k ≤ s.size := by
  by_cases h : k < (S s).length
  · obtain ⟨q, _, h2, h3, _⟩ := st_some s k h
    omega
  · rw [st_end s k (by omega)]
    exact Nat.le_refl _
theorem st_zero (s : ByteArray) : st s 0 = 0 := by
  by_cases h : 0 < s.size
  · obtain ⟨n, hn⟩ : ∃ n, s.size = n + 1 := ⟨s.size - 1, by omega⟩
    unfold st S
    rw [hn, segs_step s n 0 h]
    rfl
  · have : s.size = 0 := by omega
    unfold st S
    rw [this]
    rfl
/-- From a piece on: the rest's own pieces. -/
theorem st_rest (s : ByteArray) (k m : Nat) : st (s.extract (st s k) s.size) m = st s (k + m) - st s k := by
  have hz := ext_size s (st s k)
  have hle := st_le s k
  by_cases h : k < (S s).length
  · obtain ⟨q, h1, h2, h3, h4⟩ := st_some s k h
    have e : S (s.extract (st s k) s.size) = ((S s).drop k).map fun x => (x.1 - st s k, x.2) := by
      unfold S
      rw [hz, segs_ext s _ hle]
      congr 1
      rw [Nat.add_zero]
      have h5 := segs_more s (s.size - st s k) s.size (st s k) (by omega) (by omega)
      rw [h5, h2, h4]
    unfold st at *
    rw [e, List.getElem?_map, List.getElem?_drop]
    cases hq : (S s)[k + m]? with
    | none => simp [hz]
    | some x => simp
  · have e : st s k = s.size := st_end s k (by omega)
    have e2 : st s (k + m) = s.size := st_end s (k + m) (by omega)
    have hle2 := st_le (s.extract (st s k) s.size) m
    omega
theorem st_mono (s : ByteArray) (k m : Nat) : st s k ≤ st s (k + m) := by
  by_cases h : k + m < (S s).length
  · obtain ⟨q, h1, h2, h3, h4⟩ := st_some s k (by omega)
    obtain ⟨q', g1, g2, g3, g4⟩ := st_some s (k + m) h
    have e : (segs s s.size q.1)[m]? = some q' := by rw [h4, List.getElem?_drop, g1]
    have := (segs_at s s.size q.1 (by omega) m q' e).1
    omega
  · rw [st_end s (k + m) (by omega)]
    exact st_le s k
def isInt (n : Int) : Prop := -9223372036854775808 ≤ n ∧ n ≤ 9223372036854775807
theorem offset_f (s : ByteArray) (n : Int) (hs : s.size ≤ 1099511627776) (hn : isInt n) : runes_offset.f s n = some ((st s n.toNat : Nat) : Int) := by
  unfold runes_offset.f
  obtain ⟨h1, h2⟩ := hn
  rw [if_pos ⟨by omega, h1, h2⟩, offTo_st]
/-- A slice by pieces. -/
def sl (s : ByteArray) (a b : Int) : ByteArray := if b ≤ a ∨ b ≤ 0 then ⟨#[]⟩ else s.extract (st s a.toNat) (st s b.toNat)
theorem ext_ext (s : ByteArray) (p q : Nat) (hpq : p ≤ q) (hq : q ≤ s.size) : (s.extract p s.size).extract 0 (q - p) = s.extract p q := by
  apply bytes_inj
  rw [ext_list, ext_end, ext_list, List.drop_zero, List.drop_take]
theorem mx_eq (a b : Int) : mx a b = max a b := by unfold mx; split <;> omega
theorem mn_eq (a b : Int) : mn a b = min a b := by unfold mn; split <;> omega
theorem our_Slice (s : ByteArray) (a b : Int) (hs : s.size ≤ 1099511627776) (ha : isInt a) (hb : isInt b) (k : Nat) (hk : 1 ≤ k) : runes_Slice.f k s a b = some (sl s a b) := by
  obtain ⟨k, rfl⟩ : ∃ m, k = m + 1 := ⟨k - 1, by omega⟩
  unfold runes_Slice.f sl
  by_cases h1 : b ≤ a
  · rw [if_pos h1, if_pos (Or.inl h1)]
    simp only [runes_Slice.j0, if_true]
  · rw [if_neg h1]
    by_cases h2 : b ≤ 0
    · rw [if_pos (Or.inr h2), decide_eq_true h2]
      simp only [runes_Slice.j0, if_true]
    · rw [if_neg (by omega), decide_eq_false h2]
      simp only [runes_Slice.j0]
      rw [if_neg (by decide), offset_f s a hs ha]
      simp only [Option.bind_some]
      have hle := st_le s a.toNat
      have hz := ext_size s (st s a.toNat)
      have hm := st_mono s a.toNat (b.toNat - a.toNat)
      have hle2 := st_le s (a.toNat + (b.toNat - a.toNat))
      have hr := st_rest s a.toNat (b.toNat - a.toNat)
      obtain ⟨ha1, ha2⟩ := ha
      obtain ⟨hb1, hb2⟩ := hb
      have hw : wrap64 (b - mx a 0) = b - max a 0 := by rw [mx_eq, w64] <;> omega
      have hn : (b - max a 0).toNat = b.toNat - a.toNat := by omega
      have hab : a.toNat + (b.toNat - a.toNat) = b.toNat := by omega
      rw [hab] at hm hle2 hr
      rw [if_pos (by omega), if_pos (by omega), hw, Int.toNat_natCast, offset_f _ _ (by omega) ⟨by omega, by omega⟩, hn, hr]
      simp only [Option.bind_some]
      rw [if_pos (by omega), if_pos (by omega), Int.toNat_natCast, ext_ext s _ _ hm hle2]
theorem startsL_get (s : ByteArray) (i : Nat) (h : i ≤ (S s).length) : rd (startsL s) (i : Int) = (st s i : Int) := by
  unfold rd startsL st
  rw [Int.toNat_natCast, List.getD_eq_getElem?_getD, List.getElem?_append, List.length_map]
  by_cases hlt : i < (S s).length
  · rw [if_pos hlt, List.getElem?_map]
    cases hq : (S s)[i]? with
    | none => rw [List.getElem?_eq_none_iff] at hq; omega
    | some x => rfl
  · rw [if_neg hlt, List.getElem?_eq_none (by omega : (S s).length ≤ i)]
    have : i - (S s).length = 0 := by omega
    rw [this]
    rfl
theorem startsL_len (s : ByteArray) : (startsL s).length = (S s).length + 1 := by simp [startsL]
theorem ref_Slice (s : ByteArray) (a b : Int) (hs : s.size ≤ 1099511627776) (k : Nat) (hk : s.size + 8 ≤ k) : colanderref01_Slice.f k s a b = some (sl s a b) := by
  unfold colanderref01_Slice.f
  rw [ref_Starts_f s hs k hk]
  have hlen := startsL_len s
  have hsl : (S s).length ≤ s.size - 0 := segs_len s s.size 0
  simp only [Option.bind_some, mx_eq, mn_eq]
  rw [show wrap64 (((startsL s).length : Int) - 1) = ((S s).length : Int) by rw [hlen, w64] <;> omega]
  have hA : ∃ A : Nat, max 0 (min a ((S s).length : Int)) = (A : Int) ∧ A = min a.toNat (S s).length := ⟨_, by omega, rfl⟩
  have hB : ∃ B : Nat, max 0 (min b ((S s).length : Int)) = (B : Int) ∧ B = min b.toNat (S s).length := ⟨_, by omega, rfl⟩
  obtain ⟨A, eA, hA⟩ := hA
  obtain ⟨B, eB, hB⟩ := hB
  rw [eA, eB]
  have e1 : st s A = st s a.toNat := by
    by_cases h : a.toNat ≤ (S s).length
    · rw [show A = a.toNat by omega]
    · rw [st_end s A (by omega), st_end s a.toNat (by omega)]
  have e2 : st s B = st s b.toNat := by
    by_cases h : b.toNat ≤ (S s).length
    · rw [show B = b.toNat by omega]
    · rw [st_end s B (by omega), st_end s b.toNat (by omega)]
  unfold sl
  by_cases hge : (A : Int) ≥ (B : Int)
  · rw [if_pos hge]
    by_cases h : b ≤ a ∨ b ≤ 0
    · rw [if_pos h]
    · rw [if_neg h]
      have hAB : st s a.toNat = st s b.toNat := by rw [st_end s a.toNat (by omega), st_end s b.toNat (by omega)]
      rw [hAB]
      congr 1
      apply bytes_inj
      rw [ext_list, List.drop_take, Nat.sub_self, List.take_zero]
  · have hm := st_mono s A (B - A)
    rw [show A + (B - A) = B by omega] at hm
    have hle := st_le s B
    rw [if_neg hge, if_pos (by omega), if_pos (by omega), if_pos (by omega), if_pos (by omega), startsL_get s A (by omega), startsL_get s B (by omega), if_pos (by omega), if_pos (by omega), if_pos (by omega), if_neg (by omega), Int.toNat_natCast, Int.toNat_natCast, e1, e2]
/-- A slice up to a place, and one from it: the text. -/
theorem sl_join (s : ByteArray) (a : Int) : sl s 0 a ++ sl s (max 0 a) ((S s).length : Int) = s := by
  have hend : st s (S s).length = s.size := st_end s _ (Nat.le_refl _)
  have h0 := st_zero s
  apply bytes_inj
  rw [ByteArray.data_append, Array.toList_append]
  unfold sl
  by_cases ha : a ≤ 0
  · rw [if_pos (Or.inl ha), show max 0 a = 0 by omega]
    by_cases hn : ((S s).length : Int) ≤ 0
    · rw [if_pos (Or.inl hn)]
      have hl : (S s).length = 0 := by omega
      rw [hl, h0] at hend
      have : s.data.toList = [] := by
        apply List.eq_nil_of_length_eq_zero
        rw [size_list]
        omega
      rw [this]
      rfl
    · rw [if_neg (by omega), Int.toNat_natCast, hend]
      show [] ++ _ = _
      rw [ext_list, show (0 : Int).toNat = 0 from rfl, h0, List.take_of_length_le (by rw [size_list]; exact Nat.le_refl _)]
      rfl
  · rw [if_neg (by omega), show max 0 a = a by omega, show (0 : Int).toNat = 0 from rfl, h0, Int.toNat_natCast, hend]
    by_cases hn : ((S s).length : Int) ≤ a
    · rw [if_pos (Or.inl hn), st_end s a.toNat (by omega), ext_list]
      show _ ++ [] = _
      rw [List.take_of_length_le (by rw [size_list]; exact Nat.le_refl _), List.append_nil]
      rfl
    · rw [if_neg (by omega), ext_list, ext_list, List.drop_zero, List.take_of_length_le (i := s.size) (by rw [size_list]; exact Nat.le_refl _), List.take_append_drop]
end Go.Proofs.YtfnipedeldhmgaaDoor
