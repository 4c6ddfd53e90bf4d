/- Find and Split, ours and the reference's; the statement about what is cut out of a text. -/
import Derived.Test.YtfnipedeldhmgaaDoorPure4
import Derived.Lib.IndexLaws
import Derived.Lib.IndexMore
namespace Go.Proofs.YtfnipedeldhmgaaDoor
open Go.RowKit Go.Proofs.YtfnipedeldhmgaaDoorW.PrintWords Go.Proofs.YtfnipedeldhmgaaDoorW.PrintLast Go.Proofs.YtfnipedeldhmgaaDoorW.PrintMore
open Go.Proofs.YtfnipedeldhmgaaDoor.P
set_option linter.unusedVariables false
set_option linter.unusedSimpArgs false

theorem w64add (a b : Nat) (h : a + b ≤ 9223372036854775807) : wrap64 ((a : Int) + (b : Int)) = ((a + b : Nat) : Int) := by rw [w64] <;> omega
theorem w64one (a : Nat) (h : a + 1 ≤ 9223372036854775807) : wrap64 ((a : Int) + 1) = ((a + 1 : Nat) : Int) := by rw [w64] <;> omega
theorem At_eq (s part : ByteArray) (i : Nat) (hs : s.size ≤ 1099511627776) (hp : part.size ≤ 1099511627776) (hi : i ≤ s.size) : colanderref01_At.f s i part = some (Lib.occAt s.data.toList part.data.toList i) := by
  unfold colanderref01_At.f
  rw [show wrap64 ((s.size : Int) - (i : Int)) = ((s.size - i : Nat) : Int) by rw [w64] <;> omega, w64add i part.size (by omega)]
  by_cases h : part.size ≤ s.size - i
  · rw [if_pos (by omega), if_pos (by omega), if_pos (by omega), if_pos (by omega), Int.toNat_natCast, Int.toNat_natCast, Lib.occAt_iff_take _ _ _ (by rw [size_list, size_list]; omega), toList_data, toList_data, Lib.extract_data, size_list]
    rw [show i + part.size - i = part.size by omega]
  · rw [if_neg (by omega)]
    cases ho : Lib.occAt s.data.toList part.data.toList i with
    | false => rfl
    | true =>
      rcases Lib.occAt_room ho with h2 | h2
      · rw [size_list, size_list] at h2
        omega
      · have : part.size = 0 := by rw [← size_list, h2]; rfl
        omega
theorem hit_occ (s part : ByteArray) (pos : Nat) (h : part.toList ≠ []) : hitAt s part pos = Lib.occAt s.data.toList part.data.toList pos := by
  unfold hitAt Lib.hasPrefix Lib.occAt
  rw [ext_end]
  cases hc : part.toList with
  | nil => exact absurd hc h
  | cons a b => simp
theorem hit_nil (s part : ByteArray) (pos : Nat) (h : part.toList = []) : hitAt s part pos = false := by
  unfold hitAt
  rw [h]
  rfl
/-! ### Find -/
def findS (s part : ByteArray) : List (Nat × Nat) → Int → List Int
  | [], _ => []
  | p :: l, n => (if hitAt s part p.1 = true then [n] else []) ++ findS s part l (n + 1)
theorem findL_S (s part : ByteArray) : ∀ b pos n, findL s part b pos n = findS s part (segs s b pos) n := by
  intro b
  induction b with
  | zero => intro pos n; rfl
  | succ b ih =>
    intro pos n
    by_cases hp : pos < s.size
    · rw [segs_step s b pos hp, findS, ← ih]
      simp [findL, hp]
    · rw [segs_end s _ pos hp, findL_end s part _ pos n hp]
      rfl
theorem findS_nil (s part : ByteArray) (h : part.toList = []) : ∀ l n, findS s part l n = [] := by
  intro l
  induction l with
  | nil => intro n; rfl
  | cons p l ih => intro n; rw [findS, ih, hit_nil s part _ h]; rfl
theorem findS_len (s part : ByteArray) : ∀ l n, (findS s part l n).length ≤ l.length := by
  intro l
  induction l with
  | nil => intro n; simp [findS]
  | cons p l ih =>
    intro n
    have := ih (n + 1)
    rw [findS, List.length_append, List.length_cons]
    split <;> simp <;> omega
theorem ref_Find (s part : ByteArray) (hs : s.size ≤ 1099511627776) (hp : part.size ≤ 1099511627776) : ∀ (b i : Nat) (acc : List Int) (k : Nat), (S s).length ≤ i + b → i ≤ (S s).length → acc.length ≤ i → 2 * b + 2 ≤ k →
    colanderref01_Find.l0 k s part (startsL s) acc i = some (acc ++ findS s part ((S s).drop i) i) := by
  have hlen := startsL_len s
  have hsl : (S s).length ≤ s.size - 0 := segs_len s s.size 0
  have ew : wrap64 (((startsL s).length : Int) - 1) = ((S s).length : Int) := by rw [hlen, w64] <;> omega
  intro b
  induction b with
  | zero =>
    intro i acc k h hi ha hk
    obtain ⟨k, rfl⟩ : ∃ m, k = m + 2 := ⟨k - 2, by omega⟩
    simp only [colanderref01_Find.l0, colanderref01_Find.j1, ew]
    rw [if_neg (by omega), if_neg (by decide), List.drop_of_length_le (by omega)]
    simp [findS]
  | succ b ih =>
    intro i acc k h hi ha hk
    obtain ⟨k, rfl⟩ : ∃ m, k = m + 2 := ⟨k - 2, by omega⟩
    simp only [colanderref01_Find.l0, colanderref01_Find.j1, ew]
    by_cases hlt : i < (S s).length
    · rw [if_pos (by omega)]
      by_cases hpe : part.toList = []
      · rw [hpe]
        rw [if_neg (by simp), findS_nil s part hpe]
        simp
      · have e1 : (part.toList != []) = true := by simpa using hpe
        rw [e1, if_pos rfl, if_pos (by omega), if_pos (by omega), startsL_get s i (by omega), At_eq s part _ hs hp (st_le s i)]
        simp only [Option.bind_some]
        obtain ⟨q, h1, h2, h3, h4⟩ := st_some s i hlt
        have hd : (S s).drop i = q :: (S s).drop (i + 1) := by
          rw [List.drop_eq_getElem_cons hlt]
          congr 1
          rw [List.getElem?_eq_getElem hlt] at h1
          exact Option.some.inj h1
        rw [hd, findS, ← h2, hit_occ s part _ hpe, w64one i (by omega)]
        by_cases ho : Lib.occAt s.data.toList part.data.toList (st s i) = true
        · rw [if_pos ho, if_pos (by omega), ih (i + 1) (acc ++ [(i : Int)]) k (by omega) (by omega) (by simp; omega) (by omega), if_pos ho]
          simp
        · rw [if_neg ho, ih (i + 1) acc k (by omega) (by omega) (by omega) (by omega), if_neg ho]
          simp
    · rw [if_neg (by omega), if_neg (by decide), List.drop_of_length_le (by omega)]
      simp [findS]
theorem ref_Find_f (s part : ByteArray) (hs : s.size ≤ 1099511627776) (hp : part.size ≤ 1099511627776) (k : Nat) (hk : 2 * s.size + 8 ≤ k) : colanderref01_Find.f k s part = some (findS s part (S s) 0) := by
  have hsl : (S s).length ≤ s.size - 0 := segs_len s s.size 0
  unfold colanderref01_Find.f
  rw [ref_Starts_f s hs k (by omega)]
  simp only [Option.bind_some]
  have := ref_Find s part hs hp (S s).length 0 [] k (by omega) (by omega) (by simp) (by omega)
  simpa using this
theorem our_Find_f (s part : ByteArray) (hs : s.size ≤ 1099511627776) : runes_Find.f s part = some (findS s part (S s) 0) := by
  unfold runes_Find.f
  rw [if_pos (by omega), findL_S]

/-! ### Split by pieces -/
def piece1 (s : ByteArray) (i : Nat) : ByteArray := s.extract (st s i) (st s (i + 1))
def piecesTo (s : ByteArray) (n : Nat) : List ByteArray := (List.range n).map (piece1 s)
theorem piecesTo_succ (s : ByteArray) (n : Nat) : piecesTo s (n + 1) = piecesTo s n ++ [piece1 s n] := by simp [piecesTo, List.range_succ]
theorem piecesTo_len (s : ByteArray) (n : Nat) : (piecesTo s n).length = n := by simp [piecesTo]
theorem our_Split0 (s : ByteArray) (hs : s.size ≤ 1099511627776) : ∀ (b i k : Nat), (S s).length ≤ i + b → i ≤ (S s).length → b + 1 ≤ k →
    runes_Split.l0 k (s.extract (st s i) s.size) (piecesTo s i) = some (piecesTo s (S s).length) := by
  have hsl : (S s).length ≤ s.size - 0 := segs_len s s.size 0
  intro b
  induction b with
  | zero =>
    intro i k h hi hk
    obtain ⟨k, rfl⟩ : ∃ m, k = m + 1 := ⟨k - 1, by omega⟩
    simp only [runes_Split.l0]
    have e : (s.extract (st s i) s.size).toList = [] := by
      rw [toList_data, ext_end, st_end s i (by omega), List.drop_of_length_le (by rw [size_list]; exact Nat.le_refl _)]
    rw [if_pos e, show i = (S s).length by omega]
  | succ b ih =>
    intro i k h hi hk
    obtain ⟨k, rfl⟩ : ∃ m, k = m + 1 := ⟨k - 1, by omega⟩
    simp only [runes_Split.l0]
    by_cases hlt : i < (S s).length
    · obtain ⟨q, h1, h2, h3, h4⟩ := st_some s i hlt
      have hz := ext_size s (st s i)
      have e : ¬ (s.extract (st s i) s.size).toList = [] := by
        intro e
        have := congrArg List.length e
        rw [toList_data, size_list, hz] at this
        simp at this
        omega
      have hm := st_mono s i 1
      have hle := st_le s (i + 1)
      have hr := st_rest s i 1
      rw [if_neg e, offset_f _ 1 (by omega) ⟨by omega, by omega⟩, show (1 : Int).toNat = 1 from rfl, hr]
      simp only [Option.bind_some]
      rw [if_pos (by omega), if_pos (by omega), if_pos (by rw [piecesTo_len]; omega), Int.toNat_natCast, ext_ext s _ _ hm hle]
      have e2 : (s.extract (st s i) s.size).extract (st s (i + 1) - st s i) (s.extract (st s i) s.size).size = s.extract (st s (i + 1)) s.size := by
        apply bytes_inj
        rw [ext_end, ext_end, ext_end, List.drop_drop]
        congr 1
        omega
      rw [e2]
      have := ih (i + 1) k (by omega) (by omega) (by omega)
      rw [piecesTo_succ] at this
      exact this
    · have e : (s.extract (st s i) s.size).toList = [] := by
        rw [toList_data, ext_end, st_end s i (by omega), List.drop_of_length_le (by rw [size_list]; exact Nat.le_refl _)]
      rw [if_pos e, show i = (S s).length by omega]
theorem ref_Split0 (s : ByteArray) (hs : s.size ≤ 1099511627776) : ∀ (b i k : Nat), (S s).length ≤ i + b → i ≤ (S s).length → b + 1 ≤ k →
    colanderref01_Split.l0 k s (piecesTo s i) (startsL s) i = some (piecesTo s (S s).length) := by
  have hlen := startsL_len s
  have hsl : (S s).length ≤ s.size - 0 := segs_len s s.size 0
  have ew : wrap64 (((startsL s).length : Int) - 1) = ((S s).length : Int) := by rw [hlen, w64] <;> omega
  intro b
  induction b with
  | zero =>
    intro i k h hi hk
    obtain ⟨k, rfl⟩ : ∃ m, k = m + 1 := ⟨k - 1, by omega⟩
    simp only [colanderref01_Split.l0, ew]
    rw [if_neg (by omega), show i = (S s).length by omega]
  | succ b ih =>
    intro i k h hi hk
    obtain ⟨k, rfl⟩ : ∃ m, k = m + 1 := ⟨k - 1, by omega⟩
    simp only [colanderref01_Split.l0, ew]
    by_cases hlt : i < (S s).length
    · have hm := st_mono s i 1
      have hle := st_le s (i + 1)
      rw [w64one i (by omega), startsL_get s i (by omega), startsL_get s (i + 1) (by omega)]
      rw [if_pos (by omega), if_pos (by omega), if_pos (by omega), if_pos (by omega), if_pos (by omega), if_pos (by omega), if_pos (by omega), if_pos (by omega), if_pos (by rw [piecesTo_len]; omega), Int.toNat_natCast, Int.toNat_natCast]
      have := ih (i + 1) k (by omega) (by omega) (by omega)
      rw [piecesTo_succ] at this
      exact this
    · rw [if_neg (by omega), show i = (S s).length by omega]

/-! ### Split by a text -/
def splitL : Nat → List UInt8 → List UInt8 → List ByteArray
  | 0, _, _ => []
  | n + 1, l, by_ => if 0 ≤ Lib.index l by_ then ⟨(l.take (Lib.index l by_).toNat).toArray⟩ :: splitL n (l.drop ((Lib.index l by_).toNat + by_.length)) by_ else [⟨l.toArray⟩]
theorem splitL_more (by_ : List UInt8) (hb : by_ ≠ []) : ∀ (n m : Nat) (l : List UInt8), l.length + 1 ≤ n → l.length + 1 ≤ m → splitL n l by_ = splitL m l by_ := by
  have hbl : 0 < by_.length := List.length_pos_iff.2 hb
  intro n
  induction n with
  | zero => intro m l h _; omega
  | succ n ih =>
    intro m l h hm
    obtain ⟨m, rfl⟩ : ∃ c, m = c + 1 := ⟨m - 1, by omega⟩
    rw [splitL, splitL]
    by_cases h0 : 0 ≤ Lib.index l by_
    · have hr := Lib.index_room l by_ h0
      rw [if_pos h0, if_pos h0, ih m _ (by rw [List.length_drop]; omega) (by rw [List.length_drop]; omega)]
    · rw [if_neg h0, if_neg h0]
theorem splitL_len (by_ : List UInt8) : ∀ (n : Nat) (l : List UInt8), (splitL n l by_).length ≤ n := by
  intro n
  induction n with
  | zero => intro l; simp [splitL]
  | succ n ih =>
    intro l
    rw [splitL]
    split
    · have := ih (l.drop ((Lib.index l by_).toNat + by_.length))
      simp
      omega
    · simp
theorem our_Split1 (by_ : ByteArray) (hb : by_.data.toList ≠ []) : ∀ (b : Nat) (s : ByteArray) (out : List ByteArray) (k : Nat), s.size + 1 ≤ b → s.size < 4294967281 → out.length + b ≤ 8796093022208 → b ≤ k →
    runes_Split.l1 k s by_ out = some (out ++ splitL b s.data.toList by_.data.toList) := by
  have hbl : 0 < by_.data.toList.length := List.length_pos_iff.2 hb
  intro b
  induction b with
  | zero => intro s out k h _ _ _; omega
  | succ b ih =>
    intro s out k h hs ho hk
    obtain ⟨k, rfl⟩ : ∃ m, k = m + 1 := ⟨k - 1, by omega⟩
    simp only [runes_Split.l1, strings_Cut.f]
    rw [if_pos hs]
    simp only [Option.bind_some]
    rw [if_pos (by omega)]
    unfold Lib.cut
    rw [splitL]
    by_cases h0 : 0 ≤ Lib.index s.data.toList by_.data.toList
    · have hr := Lib.index_room _ _ h0
      rw [size_list s] at hr
      rw [if_pos h0, if_pos h0]
      simp only [if_true]
      have hz : (⟨(s.data.toList.drop ((Lib.index s.data.toList by_.data.toList).toNat + by_.data.toList.length)).toArray⟩ : ByteArray).size = s.size - ((Lib.index s.data.toList by_.data.toList).toNat + by_.data.toList.length) := by
        show (List.toArray _).size = _
        rw [List.size_toArray, List.length_drop, size_list]
      have hgo := ih ⟨(s.data.toList.drop ((Lib.index s.data.toList by_.data.toList).toNat + by_.data.toList.length)).toArray⟩ (out ++ [⟨(s.data.toList.take (Lib.index s.data.toList by_.data.toList).toNat).toArray⟩]) k (by rw [hz]; omega) (by rw [hz]; omega) (by simp; omega) (by omega)
      rw [hgo]
      simp
    · rw [if_neg h0, if_neg h0]
      simp
theorem occ_drop (l sub : List UInt8) (f i : Nat) (h : f ≤ i) : Lib.occAt (l.drop f) sub (i - f) = Lib.occAt l sub i := by
  unfold Lib.occAt
  rw [List.drop_drop, show f + (i - f) = i by omega]
theorem ref_Split1 (s by_ : ByteArray) (hb : by_.data.toList ≠ []) (hs : s.size ≤ 1099511627776) (hbz : by_.size ≤ 1099511627776) : ∀ (b i f : Nat) (out : List ByteArray) (k n : Nat), s.size ≤ i + b → f ≤ i → i ≤ s.size →
    Lib.NoOcc (s.data.toList.drop f) by_.data.toList (i - f) → out.length ≤ i → s.size - f + 1 ≤ n → b + 1 ≤ k →
    colanderref01_Split.l1 k s by_ out f i = some (out ++ splitL n (s.data.toList.drop f) by_.data.toList) := by
  have hbl : 0 < by_.data.toList.length := List.length_pos_iff.2 hb
  have hbz2 : by_.data.toList.length = by_.size := size_list by_
  intro b
  induction b with
  | zero =>
    intro i f out k n h hf hi hno ho hn hk
    obtain ⟨k, rfl⟩ : ∃ m, k = m + 1 := ⟨k - 1, by omega⟩
    obtain ⟨n, rfl⟩ : ∃ m, n = m + 1 := ⟨n - 1, by omega⟩
    simp only [colanderref01_Split.l1]
    have hidx : Lib.index (s.data.toList.drop f) by_.data.toList = -1 := Lib.index_past hb hno (by rw [List.length_drop, size_list]; omega)
    rw [if_neg (by omega), if_pos (by omega), if_pos (by omega), if_pos (by omega), splitL, hidx, if_neg (by omega), Int.toNat_natCast]
    congr 3
    apply bytes_inj
    rw [ext_end]
  | succ b ih =>
    intro i f out k n h hf hi hno ho hn hk
    obtain ⟨k, rfl⟩ : ∃ m, k = m + 1 := ⟨k - 1, by omega⟩
    simp only [colanderref01_Split.l1]
    by_cases hlt : i < s.size
    · rw [if_pos (by omega), At_eq s by_ i hs hbz hi]
      simp only [Option.bind_some]
      by_cases hocc : Lib.occAt s.data.toList by_.data.toList i = true
      · obtain ⟨n, rfl⟩ : ∃ m, n = m + 1 := ⟨n - 1, by omega⟩
        have hroom : i + by_.size ≤ s.size := by
          rcases Lib.occAt_room hocc with h2 | h2
          · rw [size_list, size_list] at h2
            exact h2
          · exact absurd h2 hb
        have hidx : Lib.index (s.data.toList.drop f) by_.data.toList = ((i - f : Nat) : Int) := Lib.index_hit hno (by rw [List.length_drop, size_list]; omega) (by rw [occ_drop _ _ _ _ hf]; exact hocc)
        rw [if_pos hocc, if_pos (by omega), if_pos (by omega), if_pos (by omega), if_pos (by omega), w64add i by_.size (by omega), Int.toNat_natCast, Int.toNat_natCast]
        rw [ih (i + by_.size) (i + by_.size) _ k n (by omega) (by omega) hroom (by rw [Nat.sub_self]; exact Lib.NoOcc.zero _ _) (by simp; omega) (by omega) (by omega)]
        rw [splitL, hidx, if_pos (by omega), Int.toNat_natCast, List.drop_drop, hbz2, show f + (i - f + by_.size) = i + by_.size by omega, List.append_assoc, List.singleton_append]
        congr 3
        apply bytes_inj
        rw [ext_list, List.drop_take]
      · rw [if_neg hocc, w64one i (by omega)]
        have hno2 : Lib.NoOcc (s.data.toList.drop f) by_.data.toList (i + 1 - f) := by
          rw [show i + 1 - f = (i - f) + 1 by omega]
          refine hno.succ ?_
          rw [occ_drop _ _ _ _ hf]
          simpa using hocc
        exact ih (i + 1) f out k n (by omega) (by omega) (by omega) hno2 (by omega) hn (by omega)
    · obtain ⟨n, rfl⟩ : ∃ m, n = m + 1 := ⟨n - 1, by omega⟩
      have hidx : Lib.index (s.data.toList.drop f) by_.data.toList = -1 := Lib.index_past hb hno (by rw [List.length_drop, size_list]; omega)
      rw [if_neg (by omega), if_pos (by omega), if_pos (by omega), if_pos (by omega), splitL, hidx, if_neg (by omega), Int.toNat_natCast]
      congr 3
      apply bytes_inj
      rw [ext_end]
/-- A text, split. -/
def splitS (s by_ : ByteArray) : List ByteArray := if by_.toList = [] then piecesTo s (S s).length else if s.toList = [] then [] else splitL (s.size + 1) s.data.toList by_.data.toList
theorem whole_ext (s : ByteArray) : s.extract 0 s.size = s := by
  apply bytes_inj
  rw [ext_end, List.drop_zero]
theorem our_Split_f (s by_ : ByteArray) (hs : s.size ≤ 1073741824) (k : Nat) (hk : s.size + 8 ≤ k) : runes_Split.f k s by_ = some (splitS s by_) := by
  have hsl : (S s).length ≤ s.size - 0 := segs_len s s.size 0
  unfold runes_Split.f splitS
  by_cases hb : by_.toList = []
  · rw [if_pos hb, if_pos hb]
    have := our_Split0 s (by omega) (S s).length 0 k (by omega) (by omega) (by omega)
    rw [st_zero, whole_ext] at this
    exact this
  · rw [if_neg hb, if_neg hb]
    by_cases h : s.toList = []
    · rw [if_pos h, if_pos h]
    · rw [if_neg h, if_neg h]
      have := our_Split1 by_ (by rw [← toList_data]; exact hb) (s.size + 1) s [] k (by omega) (by omega) (by simp; omega) (by omega)
      simpa using this
theorem ref_Split_f (s by_ : ByteArray) (hs : s.size ≤ 1073741824) (hbz : by_.size ≤ 1073741824) (k : Nat) (hk : s.size + 8 ≤ k) : colanderref01_Split.f k s by_ = some (splitS s by_) := by
  have hsl : (S s).length ≤ s.size - 0 := segs_len s s.size 0
  unfold colanderref01_Split.f splitS
  by_cases hb : by_.toList = []
  · rw [if_pos hb, if_pos hb, ref_Starts_f s (by omega) k (by omega)]
    simp only [Option.bind_some]
    exact ref_Split0 s (by omega) (S s).length 0 k (by omega) (by omega) (by omega)
  · rw [if_neg hb, if_neg hb]
    by_cases h : s.toList = []
    · rw [if_pos h, if_pos h]
    · rw [if_neg h, if_neg h]
      have := ref_Split1 s by_ (by rw [← toList_data]; exact hb) (by omega) (by omega) s.size 0 0 [] k (s.size + 1) (by omega) (by omega) (by omega) (Lib.NoOcc.zero _ _) (by simp) (by omega) (by omega)
      simpa using this
theorem ref_Texts (l : List ByteArray) (hl : l.length ≤ 1099511627776) : ∀ (b i k : Nat), l.length ≤ i + b → b + 1 ≤ k → i ≤ l.length → colanderref01_Texts.l0 k l l i = some true := by
  intro b
  induction b with
  | zero =>
    intro i k h hk hi
    obtain ⟨k, rfl⟩ : ∃ m, k = m + 1 := ⟨k - 1, by omega⟩
    simp only [colanderref01_Texts.l0]
    rw [if_neg (by omega)]
  | succ b ih =>
    intro i k h hk hi
    obtain ⟨k, rfl⟩ : ∃ m, k = m + 1 := ⟨k - 1, by omega⟩
    simp only [colanderref01_Texts.l0]
    by_cases hlt : i < l.length
    · rw [if_pos (by omega), if_pos (by omega), if_pos (by omega), if_pos trivial, w64one i (by omega)]
      exact ih (i + 1) k (by omega) (by omega) (by omega)
    · rw [if_neg (by omega)]
theorem ref_Texts_f (l : List ByteArray) (hl : l.length ≤ 1099511627776) (k : Nat) (hk : l.length + 1 ≤ k) : colanderref01_Texts.f k l l = some true := by
  unfold colanderref01_Texts.f
  rw [if_pos rfl]
  exact ref_Texts l hl l.length 0 k (by omega) hk (by omega)
theorem splitS_len (s by_ : ByteArray) : (splitS s by_).length ≤ s.size + 1 := by
  have hsl : (S s).length ≤ s.size - 0 := segs_len s s.size 0
  unfold splitS
  split
  · rw [piecesTo_len]; omega
  · split
    · simp
    · exact splitL_len _ _ _
end Go.Proofs.YtfnipedeldhmgaaDoor
