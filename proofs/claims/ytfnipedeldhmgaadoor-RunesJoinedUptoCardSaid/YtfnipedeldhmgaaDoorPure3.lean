/- What is cleaned is valid and stays; the statement about a text and its code points, but for the slices. -/
import Derived.Test.YtfnipedeldhmgaaDoorPure2
namespace Go.Proofs.YtfnipedeldhmgaaDoor
open Go.RowKit Go.Proofs.YtfnipedeldhmgaaDoorW.PrintWords Go.Proofs.YtfnipedeldhmgaaDoorW.PrintLast Go.Proofs.YtfnipedeldhmgaaDoorW.PrintMore
open Go.Proofs.YtfnipedeldhmgaaDoor.P
set_option linter.unusedVariables false
set_option linter.unusedSimpArgs false

def cleanD : Nat → List UInt8 → List UInt8
  | 0, _ => []
  | n + 1, l => if l = [] then [] else Lib.encodeRune ((Lib.decodeL l).1 : Int) ++ cleanD n (l.drop (Lib.decodeL l).2)
theorem drop_ne (s : ByteArray) (pos : Nat) (hp : pos < s.size) : s.data.toList.drop pos ≠ [] := by
  intro e
  have := congrArg List.length e
  rw [List.length_drop, size_list] at this
  simp at this
  omega
theorem cleanL_D (s : ByteArray) : ∀ b pos, cleanL s b pos = cleanD b (s.data.toList.drop pos) := by
  intro b
  induction b with
  | zero => intro pos; rfl
  | succ b ih =>
    intro pos
    by_cases hp : pos < s.size
    · rw [cleanL_step s b pos hp, ih, cleanD, if_neg (drop_ne s pos hp), Lib.decodeL_drop, List.drop_drop]
    · rw [cleanL_end s _ pos hp, List.drop_of_length_le (by rw [size_list]; omega), cleanD, if_pos rfl]
theorem bad_bytes (l : List UInt8) (h : (Lib.decodeL l).1 = 65533 ∧ (Lib.decodeL l).2 = 1) : (Lib.encodeRune ((Lib.decodeL l).1 : Int)).length = 3 := by
  rw [h.1]
  decide +kernel
theorem good_bytes (l : List UInt8) (hne : l ≠ []) (h : ¬ ((Lib.decodeL l).1 = 65533 ∧ (Lib.decodeL l).2 = 1)) : (Lib.encodeRune ((Lib.decodeL l).1 : Int)).length = (Lib.decodeL l).2 := by
  have := Lib.decodeL_le l hne
  rw [Lib.encode_decode l hne h, List.length_take]
  omega
theorem clean_len : ∀ (n : Nat) (l : List UInt8), l.length ≤ n → l.length ≤ (cleanD n l).length := by
  intro n
  induction n with
  | zero => intro l h; simp at h; simp [h]
  | succ n ih =>
    intro l h
    by_cases hne : l = []
    · simp [hne]
    · have hw := Lib.decodeL_width l
      have hle := Lib.decodeL_le l hne
      have hl : 0 < l.length := List.length_pos_iff.2 hne
      have := ih (l.drop (Lib.decodeL l).2) (by rw [List.length_drop]; omega)
      rw [List.length_drop] at this
      rw [cleanD, if_neg hne, List.length_append]
      by_cases hb : (Lib.decodeL l).1 = 65533 ∧ (Lib.decodeL l).2 = 1
      · rw [bad_bytes l hb]; omega
      · rw [good_bytes l hne hb]; omega
theorem clean_valid : ∀ (n : Nat) (l : List UInt8), l.length ≤ n → Lib.validD l = true → cleanD n l = l := by
  intro n
  induction n with
  | zero => intro l h _; simp at h; simp [h, cleanD]
  | succ n ih =>
    intro l h hv
    by_cases hne : l = []
    · simp [hne, cleanD]
    · have hw := Lib.decodeL_width l
      have hl : 0 < l.length := List.length_pos_iff.2 hne
      rw [Lib.validD_step l hne] at hv
      by_cases hb : (Lib.decodeL l).1 = 65533 ∧ (Lib.decodeL l).2 = 1
      · rw [if_pos hb] at hv
        cases hv
      · rw [if_neg hb] at hv
        rw [cleanD, if_neg hne, Lib.encode_decode l hne hb, ih _ (by rw [List.length_drop]; omega) hv, List.take_append_drop]
theorem valid_of_len : ∀ (n : Nat) (l : List UInt8), l.length ≤ n → (cleanD n l).length = l.length → Lib.validD l = true := by
  intro n
  induction n with
  | zero => intro l h _; simp at h; subst h; rfl
  | succ n ih =>
    intro l h he
    by_cases hne : l = []
    · subst hne; rfl
    · have hw := Lib.decodeL_width l
      have hle := Lib.decodeL_le l hne
      have hl : 0 < l.length := List.length_pos_iff.2 hne
      have hlen := clean_len n (l.drop (Lib.decodeL l).2) (by rw [List.length_drop]; omega)
      rw [cleanD, if_neg hne, List.length_append] at he
      rw [List.length_drop] at hlen
      rw [Lib.validD_step l hne]
      by_cases hb : (Lib.decodeL l).1 = 65533 ∧ (Lib.decodeL l).2 = 1
      · rw [bad_bytes l hb] at he; omega
      · rw [if_neg hb]
        rw [good_bytes l hne hb] at he
        exact ih _ (by rw [List.length_drop]; omega) (by rw [List.length_drop]; omega)
theorem byteN_list (l : List UInt8) (i : Nat) : byteN ⟨l.toArray⟩ i = (l.getD i 0).toNat := by
  unfold byteN
  rw [← Lib.getD_get!']
theorem encZ (r : Int) : Lib.encodeRune r = (Lib.encodeRuneZ r).map fun x => x.toNat.toUInt8 := rfl
theorem u8nat (x : Int) (h0 : 0 ≤ x) (h1 : x < 256) : (x.toNat.toUInt8).toNat = x.toNat := by
  have : x.toNat < 256 := by omega
  simp [Nat.mod_eq_of_lt this]
theorem decode_encode (r : Int) (h : ofOk r = true) (t : List UInt8) : Lib.decodeL (Lib.encodeRune r ++ t) = (r.toNat, (Lib.encodeRune r).length) := by
  rw [ofOk_iff] at h
  obtain ⟨h0, h1, h2⟩ := h
  unfold Lib.decodeL
  have hz : 0 < (⟨(Lib.encodeRune r ++ t).toArray⟩ : ByteArray).size := by
    have := (Lib.runeCells_le r).1
    rw [Lib.runeCells_length] at this
    show 0 < ((Lib.encodeRune r ++ t).toArray).size
    simp
    omega
  rw [decode_byteN _ 0 hz]
  simp only [byteN_list, Nat.zero_add]
  have hsz : (⟨(Lib.encodeRune r ++ t).toArray⟩ : ByteArray).size = (Lib.encodeRune r).length + t.length := by
    show ((Lib.encodeRune r ++ t).toArray).size = _
    simp
  rw [hsz]
  clear hz hsz
  obtain ⟨n, rfl⟩ := Int.eq_ofNat_of_zero_le h0
  rw [encZ]
  by_cases a : n < 128
  · rw [Lib.encodeRuneZ_one (by omega) (by omega)]
    have e0 := u8nat (n : Int) (by omega) (by omega)
    simp only [List.map_cons, List.map_nil, List.cons_append, List.nil_append, List.getD_cons_zero, e0]
    rw [if_pos (by omega)]
    rfl
  by_cases b : n < 2048
  · rw [Lib.encodeRuneZ_two (by omega) (by omega)]
    have e0 := u8nat (192 + (n : Int) / 64) (by omega) (by omega)
    have e1 := u8nat (128 + (n : Int) % 64) (by omega) (by omega)
    simp only [List.map_cons, List.map_nil, List.cons_append, List.nil_append, List.getD_cons_zero, List.getD_cons_succ, e0, e1, List.length_cons, List.length_nil]
    rw [if_neg (by omega), if_pos (by omega), if_pos (by omega)]
    refine Prod.ext ?_ rfl
    simp
    omega
  by_cases c : n < 65536
  · rw [Lib.encodeRuneZ_three (by omega)]
    have e0 := u8nat (224 + (n : Int) / 4096) (by omega) (by omega)
    have e1 := u8nat (128 + (n : Int) / 64 % 64) (by omega) (by omega)
    have e2 := u8nat (128 + (n : Int) % 64) (by omega) (by omega)
    simp only [List.map_cons, List.map_nil, List.cons_append, List.nil_append, List.getD_cons_zero, List.getD_cons_succ, e0, e1, e2, List.length_cons, List.length_nil]
    rw [if_neg (by omega), if_neg (by omega), if_pos (by omega), if_pos (by omega)]
    refine Prod.ext ?_ rfl
    simp
    omega
  · rw [Lib.encodeRuneZ_four (by omega) (by omega)]
    have e0 := u8nat (240 + (n : Int) / 262144) (by omega) (by omega)
    have e1 := u8nat (128 + (n : Int) / 4096 % 64) (by omega) (by omega)
    have e2 := u8nat (128 + (n : Int) / 64 % 64) (by omega) (by omega)
    have e3 := u8nat (128 + (n : Int) % 64) (by omega) (by omega)
    simp only [List.map_cons, List.map_nil, List.cons_append, List.nil_append, List.getD_cons_zero, List.getD_cons_succ, e0, e1, e2, e3, List.length_cons, List.length_nil]
    rw [if_neg (by omega), if_neg (by omega), if_neg (by omega), if_pos (by omega), if_pos (by omega)]
    refine Prod.ext ?_ rfl
    simp
    omega
theorem rune_okL (l : List UInt8) (hne : l ≠ []) : ofOk ((Lib.decodeL l).1 : Int) = true := by
  have hl : 0 < l.length := List.length_pos_iff.2 hne
  exact rune_ok ⟨l.toArray⟩ 0 (by show 0 < l.toArray.size; simpa using hl)
theorem valid_clean : ∀ (n : Nat) (l : List UInt8), l.length ≤ n → Lib.validD (cleanD n l) = true := by
  intro n
  induction n with
  | zero => intro l h; rfl
  | succ n ih =>
    intro l h
    by_cases hne : l = []
    · subst hne; rfl
    · have hw := Lib.decodeL_width l
      have hl : 0 < l.length := List.length_pos_iff.2 hne
      have hok := rune_okL l hne
      rw [cleanD, if_neg hne]
      have hd := decode_encode _ hok (cleanD n (l.drop (Lib.decodeL l).2))
      have h3 := (Lib.runeCells_le ((Lib.decodeL l).1 : Int)).1
      rw [Lib.runeCells_length] at h3
      have hne2 : Lib.encodeRune ((Lib.decodeL l).1 : Int) ++ cleanD n (l.drop (Lib.decodeL l).2) ≠ [] := by
        intro e
        have := congrArg List.length e
        simp at this
        rw [this.1] at h3
        simp at h3
      rw [Lib.validD_step _ hne2, hd, Int.toNat_natCast]
      have hnb : ¬ ((Lib.decodeL l).1 = 65533 ∧ (Lib.encodeRune ((Lib.decodeL l).1 : Int)).length = 1) := by
        rintro ⟨e1, e2⟩
        rw [e1] at e2
        exact absurd e2 (by decide +kernel)
      rw [if_neg hnb]
      simp only [List.drop_left]
      exact ih _ (by rw [List.length_drop]; omega)

theorem bytes_inj {a b : ByteArray} (h : a.data.toList = b.data.toList) : a = b := by
  cases a; cases b
  simp only [ByteArray.mk.injEq]
  exact Array.toList_inj.1 h
theorem toList_data (s : ByteArray) : s.toList = s.data.toList := Lib.toList_data s
theorem cleanL_all (s : ByteArray) : cleanL s s.size 0 = cleanD s.size s.data.toList := by rw [cleanL_D]; rfl
theorem strOf_bytesOf (s : ByteArray) : strOfNums (bytesOf s) = s := by
  have : bytesOf s = intsOf s.data.toList := rfl
  rw [this, strOf_intsOf]
/-- The cleaned text. -/
def cleaned (l : List Int) : ByteArray := ⟨(cleanL (strOfNums l) l.length 0).toArray⟩
theorem cleaned_list (l : List Int) : (cleaned l).data.toList = cleanD l.length (strOfNums l).data.toList := by
  have hz := strOfNums_size l
  unfold cleaned
  rw [← hz, cleanL_all]
theorem cleaned_valid (l : List Int) : Lib.validD (cleaned l).data.toList = true := by
  rw [cleaned_list]
  exact valid_clean _ _ (by rw [size_list, strOfNums_size]; exact Nat.le_refl _)
theorem clean_size_le : ∀ (n : Nat) (l : List UInt8), (cleanD n l).length ≤ 4 * n := by
  intro n
  induction n with
  | zero => intro l; simp [cleanD]
  | succ n ih =>
    intro l
    by_cases hne : l = []
    · simp [hne, cleanD]
    · have := ih (l.drop (Lib.decodeL l).2)
      have h4 := encode_le ((Lib.decodeL l).1 : Int)
      rw [cleanD, if_neg hne, List.length_append]
      omega
theorem cleaned_size (l : List Int) : (cleaned l).size ≤ 4 * l.length := by
  have := clean_size_le l.length (strOfNums l).data.toList
  rw [← cleaned_list, size_list] at this
  exact this
/-- What is clean is cleaned into itself. -/
theorem clean_fix (s : ByteArray) (h : Lib.validD s.data.toList = true) : (⟨(cleanL s s.size 0).toArray⟩ : ByteArray) = s := by
  apply bytes_inj
  show (cleanL s s.size 0).toArray.toList = _
  rw [cleanL_all, clean_valid _ _ (by rw [size_list]; exact Nat.le_refl _) h]
theorem back_clean (l : List Int) (hl : l.length ≤ 1073741824) : runes_Clean.f (bytesOf (cleaned l)) = some (cleaned l) := by
  have hz := cleaned_size l
  rw [our_Clean_f _ (by rw [bytesOf_len]; omega), strOf_bytesOf, bytesOf_len, clean_fix _ (cleaned_valid l)]
theorem back_valid (l : List Int) (hl : l.length ≤ 1073741824) : runes_Valid.f (strOfNums l) = some ((cleaned l).toList == (strOfNums l).toList) := by
  have hz := strOfNums_size l
  rw [our_Valid_f _ (by omega)]
  congr 1
  rw [Bool.eq_iff_iff, beq_iff_eq, toList_data, toList_data, cleaned_list]
  constructor
  · intro h
    exact clean_valid _ _ (by rw [size_list, hz]; exact Nat.le_refl _) h
  · intro h
    exact valid_of_len l.length _ (by rw [size_list, hz]; exact Nat.le_refl _) (by rw [h])
theorem back_of (l : List Int) (hl : l.length ≤ 1073741824) : runes_Of.f ((segs (cleaned l) (cleaned l).size 0).map fun p => (p.2 : Int)) = some (cleaned l, 0) := by
  have hz := cleaned_size l
  have hsl := segs_len (cleaned l) (cleaned l).size 0
  rw [our_Of_f _ (by simp; omega), ofL_segs]
  simp only [ofR, List.nil_append]
  rw [clean_fix _ (cleaned_valid l)]
end Go.Proofs.YtfnipedeldhmgaaDoor
