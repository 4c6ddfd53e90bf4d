/- How case is turned, blanks are taken away, texts are repeated: over plain values, at every size. -/
import Derived.Test.YtfnipedeldhmgaaDoorPure2
import Derived.Test.YtfnipedeldhmgaaDoorPx10
namespace Go.Proofs.YtfnipedeldhmgaaDoor
open Go.RowKit Go.Proofs.YtfnipedeldhmgaaDoorW.PrintWords Go.Proofs.YtfnipedeldhmgaaDoorW.PrintLast Go.Proofs.YtfnipedeldhmgaaDoorW.PrintMore
open Go.Proofs.YtfnipedeldhmgaaDoor.P
set_option linter.unusedVariables false
set_option linter.unusedSimpArgs false

theorem bytes_inj7 {a b : ByteArray} (h : a.data.toList = b.data.toList) : a = b := by
  cases a; cases b
  simp only [ByteArray.mk.injEq]
  exact Array.toList_inj.1 h
/-! ### Repeat -/
theorem ref_Repeat_l0 (s : ByteArray) (n : Nat) (hs : s.size * n ≤ 1048576) (hn : n ≤ 1048576) : ∀ (b i k : Nat), n ≤ i + b → i ≤ n → b + 1 ≤ k →
    colanderref01_Repeat.l0 k s n (intsOf (Lib.repeatL s.data.toList i)) i = some (⟨(Lib.repeatL s.data.toList n).toArray⟩, 0) := by
  have hz := size_list s
  have hrl : ∀ i, (Lib.repeatL s.data.toList i).length = i * s.size := by
    intro i
    rw [Lib.repeatL_length, hz]
  have hb : bytesOf s = intsOf s.data.toList := rfl
  have comm : ∀ i, Lib.repeatL s.data.toList i ++ s.data.toList = Lib.repeatL s.data.toList (i + 1) := by
    intro i
    induction i with
    | zero => simp [Lib.repeatL]
    | succ i ih => rw [Lib.repeatL, List.append_assoc, ih]; rfl
  intro b
  induction b with
  | zero =>
    intro i k h hi hk
    obtain ⟨k, rfl⟩ : ∃ m, k = m + 1 := ⟨k - 1, by omega⟩
    simp only [colanderref01_Repeat.l0]
    rw [if_neg (by omega), show i = n by omega, strOf_intsOf]
  | succ b ih =>
    intro i k h hi hk
    obtain ⟨k, rfl⟩ : ∃ m, k = m + 1 := ⟨k - 1, by omega⟩
    simp only [colanderref01_Repeat.l0]
    by_cases hlt : i < n
    · have hm : i * s.size ≤ n * s.size := Nat.mul_le_mul_right _ (by omega)
      have hm2 : s.size ≤ n * s.size := Nat.le_mul_of_pos_left _ (by omega)
      have hc : n * s.size = s.size * n := Nat.mul_comm _ _
      have hl : (intsOf (Lib.repeatL s.data.toList i)).length = i * s.size := by rw [← hrl i]; simp [intsOf]
      rw [if_pos (by omega), if_pos (by omega), hb, ← intsOf_append, comm, show wrap64 ((i : Int) + 1) = ((i + 1 : Nat) : Int) by rw [w64] <;> omega]
      exact ih (i + 1) k (by omega) (by omega) (by omega)
    · rw [if_neg (by omega), show i = n by omega, strOf_intsOf]
def repR (s : ByteArray) (n : Int) : ByteArray × Int := if n < 0 then (⟨#[]⟩, 2) else if 0 < s.size then (if n > (1048576 : Int) / (s.size : Int) then (⟨#[]⟩, 2) else (⟨(Lib.repeatL s.data.toList n.toNat).toArray⟩, 0)) else (⟨#[]⟩, 0)
theorem empty_iff (s : ByteArray) : s.toList = [] ↔ s.size = 0 := by
  rw [Lib.toList_data, ← size_list]
  exact List.length_eq_zero_iff.symm
theorem room_of (s : ByteArray) (n : Int) (h0 : 0 ≤ n) (hs : 0 < s.size) (h : ¬ n > (1048576 : Int) / (s.size : Int)) : s.size * n.toNat ≤ 1048576 ∧ n.toNat ≤ 1048576 := by
  obtain ⟨m, rfl⟩ := Int.eq_ofNat_of_zero_le h0
  have h1 : (m : Int) ≤ (1048576 : Int) / (s.size : Int) := by omega
  have h2 : (m : Int) * (s.size : Int) ≤ 1048576 := (Int.le_ediv_iff_mul_le (by omega)).1 h1
  have h3 : m * s.size ≤ 1048576 := by
    have : ((m * s.size : Nat) : Int) ≤ 1048576 := by rw [Int.natCast_mul]; exact h2
    omega
  have h4 : m ≤ m * s.size := Nat.le_mul_of_pos_right _ hs
  rw [Int.toNat_natCast, Nat.mul_comm]
  exact ⟨h3, by omega⟩
theorem our_Repeat_f (s : ByteArray) (n : Int) (k : Nat) (hk : 1 ≤ k) : runes_Repeat.f k s n = some (repR s n) := by
  obtain ⟨k, rfl⟩ : ∃ m, k = m + 1 := ⟨k - 1, by omega⟩
  unfold runes_Repeat.f repR
  by_cases h0 : n < 0
  · rw [if_pos h0, if_pos h0, decide_eq_true h0]
    simp only [runes_Repeat.j0, if_true]
  · rw [if_neg h0, if_neg h0]
    by_cases hs : 0 < s.size
    · rw [if_pos (by omega), if_neg (by omega), if_pos hs, wrap_divs]
      simp only [runes_Repeat.j0]
      by_cases hn : n > (1048576 : Int) / (s.size : Int)
      · rw [decide_eq_true hn, if_pos rfl, if_pos hn]
      · obtain ⟨r1, r2⟩ := room_of s n (by omega) hs hn
        rw [decide_eq_false hn, if_neg (by decide), if_neg hn, if_neg (by rw [empty_iff]; omega)]
        unfold strings_Repeat.f
        rw [if_pos ⟨by omega, by omega, by omega⟩]
        rfl
    · rw [if_neg (by omega), if_neg hs]
      simp only [runes_Repeat.j0]
      rw [if_neg (by decide), if_pos (by rw [empty_iff]; omega)]
theorem ref_Repeat_f (s : ByteArray) (n : Int) (k : Nat) (hk : 1048600 ≤ k) : colanderref01_Repeat.f k s n = some (repR s n) := by
  obtain ⟨k, rfl⟩ : ∃ m, k = m + 1 := ⟨k - 1, by omega⟩
  unfold colanderref01_Repeat.f repR
  by_cases h0 : n < 0
  · rw [if_pos h0, if_pos h0]
    simp only [colanderref01_Repeat.j0, if_true]
  · rw [if_neg h0, if_neg h0]
    by_cases hs : 0 < s.size
    · rw [if_pos (by omega), if_neg (by omega), if_pos hs, wrap_divs]
      simp only [colanderref01_Repeat.j0]
      by_cases hn : n > (1048576 : Int) / (s.size : Int)
      · rw [decide_eq_true hn, if_pos rfl, if_pos hn]
      · obtain ⟨r1, r2⟩ := room_of s n (by omega) hs hn
        rw [decide_eq_false hn, if_neg (by decide), if_neg hn, if_neg (by omega)]
        have := ref_Repeat_l0 s n.toNat r1 r2 n.toNat 0 k (by omega) (by omega) (by omega)
        rw [Int.toNat_of_nonneg (by omega)] at this
        exact this
    · rw [if_neg (by omega), if_neg hs]
      simp only [colanderref01_Repeat.j0]
      rw [if_neg (by decide), if_pos (by omega)]
/-! ### Trim -/
def blanks : List UInt8 := [9, 10, 11, 12, 13, 32]
theorem blank_byte : ∀ b : Fin 256, (blanks.contains (UInt8.ofNat b.val)) = (decide (b.val = 32) || (decide (9 ≤ b.val) && decide (b.val ≤ 13))) := by decide +kernel
theorem blank_eq (b : UInt8) : colanderref01_blank.f ((b.toNat : Nat) : Int) = some (blanks.contains b) := by
  have h := blank_byte ⟨b.toNat, b.toNat_lt⟩
  simp only [UInt8.ofNat_toNat] at h
  rw [h]
  unfold colanderref01_blank.f
  by_cases h1 : b.toNat = 32
  · rw [if_pos (by omega), decide_eq_true h1]
    rfl
  · rw [if_neg (by omega), decide_eq_false h1]
    by_cases h2 : 9 ≤ b.toNat
    · rw [if_pos (by omega), decide_eq_true h2]
      simp
      omega
    · rw [if_neg (by omega), decide_eq_false h2]
      rfl
theorem bt_get (s : ByteArray) (i : Nat) (h : i < s.size) : bt s (i : Int) = ((s.data.toList.getD i 0).toNat : Int) := by
  rw [bt_byteN s i h]
  unfold byteN
  rw [Lib.getD_get!']
def trimR (s : ByteArray) (b : Bool) : ByteArray := if b = true then ⟨(Lib.trimRightS s.data.toList blanks).toArray⟩ else s
def trimL (s : ByteArray) (b : Bool) : ByteArray := if b = true then ⟨(Lib.trimLeftS s.data.toList blanks).toArray⟩ else s
theorem ext_list7 (s : ByteArray) (p q : Nat) : (s.extract p q).data.toList = (s.data.toList.take q).drop p := by
  rw [Lib.extract_data, List.drop_take]
theorem trimRightS_snoc (l : List UInt8) (b : UInt8) : Lib.trimRightS (l ++ [b]) blanks = if blanks.contains b = true then Lib.trimRightS l blanks else l ++ [b] := by
  unfold Lib.trimRightS
  rw [List.reverse_append, List.reverse_singleton, List.singleton_append, List.dropWhile_cons]
  split
  · rfl
  · simp
theorem ref_right (b : Bool) : ∀ (n : Nat) (s : ByteArray) (k : Nat), s.size = n → n ≤ 140737488355328 → n + 1 ≤ k → colanderref01_Trim.l1 k s b = some (trimR s b) := by
  intro n
  induction n with
  | zero =>
    intro s k hn hs hk
    obtain ⟨k, rfl⟩ : ∃ m, k = m + 1 := ⟨k - 1, by omega⟩
    simp only [colanderref01_Trim.l1, trimR]
    cases b with
    | false => simp
    | true =>
      rw [if_pos rfl, if_neg (by omega), if_pos rfl]
      have : s.data.toList = [] := List.length_eq_zero_iff.1 (by rw [size_list]; exact hn)
      rw [this]
      congr 1
      apply bytes_inj7
      rw [this]
      rfl
  | succ n ih =>
    intro s k hn hs hk
    obtain ⟨k, rfl⟩ : ∃ m, k = m + 1 := ⟨k - 1, by omega⟩
    simp only [colanderref01_Trim.l1, trimR]
    cases b with
    | false => simp
    | true =>
      have ew : wrap64 ((s.size : Int) - 1) = (n : Int) := by rw [w64] <;> omega
      have hl : s.data.toList = s.data.toList.take n ++ [s.data.toList.getD n 0] := by
        have hlt : n < s.data.toList.length := by rw [size_list]; omega
        conv => lhs; rw [← List.take_length (l := s.data.toList), size_list, hn, List.take_succ_eq_append_getElem hlt]
        rw [List.getD_eq_getElem?_getD, List.getElem?_eq_getElem hlt]
        rfl
      rw [if_pos rfl, if_pos (by omega), ew, if_pos (by omega), if_pos (by omega), bt_get s n (by omega), blank_eq, if_pos rfl]
      simp only [Option.bind_some]
      have ht := trimRightS_snoc (s.data.toList.take n) (s.data.toList.getD n 0)
      rw [← hl] at ht
      rw [ht]
      have he : (s.extract 0 n).data.toList = s.data.toList.take n := by rw [ext_list7, List.drop_zero]
      by_cases hb : blanks.contains (s.data.toList.getD n 0) = true
      · rw [if_pos hb, if_pos (by omega), if_pos hb, Int.toNat_natCast, ih (s.extract 0 n) k (by rw [← size_list, he, List.length_take, size_list]; omega) (by omega) (by omega), trimR, if_pos rfl, he]
      · rw [if_neg hb, if_neg hb]
theorem ref_left (a b : Bool) : ∀ (n : Nat) (s : ByteArray) (k : Nat), s.size = n → n ≤ 140737488355328 → 2 * n + 4 ≤ k → colanderref01_Trim.l0 k s a b = some (trimR (trimL s a) b) := by
  have right : ∀ (s : ByteArray) (k : Nat), s.size ≤ 140737488355328 → s.size + 2 ≤ k → colanderref01_Trim.j1 k s b = some (trimR s b) := by
    intro s k hs hk
    obtain ⟨k, rfl⟩ : ∃ m, k = m + 1 := ⟨k - 1, by omega⟩
    simp only [colanderref01_Trim.j1]
    exact ref_right b s.size s k rfl hs (by omega)
  intro n
  induction n with
  | zero =>
    intro s k hn hs hk
    obtain ⟨k, rfl⟩ : ∃ m, k = m + 1 := ⟨k - 1, by omega⟩
    simp only [colanderref01_Trim.l0]
    cases a with
    | false => rw [if_neg (by decide), right s k (by omega) (by omega)]; rfl
    | true =>
      rw [if_pos rfl, if_neg (by omega), right s k (by omega) (by omega)]
      have : s.data.toList = [] := List.length_eq_zero_iff.1 (by rw [size_list]; exact hn)
      congr 2
      apply bytes_inj7
      rw [trimL, if_pos rfl, this]
      rfl
  | succ n ih =>
    intro s k hn hs hk
    obtain ⟨k, rfl⟩ : ∃ m, k = m + 1 := ⟨k - 1, by omega⟩
    simp only [colanderref01_Trim.l0]
    cases a with
    | false => rw [if_neg (by decide), right s k (by omega) (by omega)]; rfl
    | true =>
      cases hc : s.data.toList with
      | nil =>
        have := size_list s
        rw [hc] at this
        simp at this
        omega
      | cons c t =>
        have h0 : bt s 0 = ((c.toNat : Nat) : Int) := by
          have := bt_get s 0 (by omega)
          rw [hc] at this
          exact this
        rw [if_pos rfl, if_pos (by omega), if_pos (by omega), h0, blank_eq]
        simp only [Option.bind_some]
        by_cases hb : blanks.contains c = true
        · have he : (s.extract 1 s.size).data.toList = t := by rw [ext_list7, List.take_of_length_le (by rw [size_list]; omega), hc]; rfl
          rw [if_pos hb, if_pos (by omega), ih (s.extract 1 s.size) k (by rw [← size_list, he]; have := size_list s; rw [hc] at this; simp at this; omega) (by omega) (by omega)]
          congr 2
          unfold trimL
          rw [if_pos rfl, if_pos rfl, he, hc]
          unfold Lib.trimLeftS
          rw [List.dropWhile_cons, if_pos hb]
        · rw [if_neg hb, right s k (by omega) (by omega)]
          congr 2
          apply bytes_inj7
          unfold trimL
          rw [if_pos rfl]
          show _ = Lib.trimLeftS s.data.toList blanks
          unfold Lib.trimLeftS
          rw [hc, List.dropWhile_cons, if_neg hb]
theorem our_Trim_f (s : ByteArray) (a b : Bool) (hs : s.size ≤ 140737488355328) : runes_Trim.f s a b = some (trimR (trimL s a) b) := by
  have hlz : (trimL s a).size ≤ s.size := by
    unfold trimL
    cases a with
    | false => simp
    | true =>
      rw [if_pos rfl]
      show (List.toArray _).size ≤ _
      rw [List.size_toArray, ← size_list s]
      exact (List.dropWhile_sublist _).length_le
  have eL : strings_TrimLeft.f s ⟨#[9, 10, 11, 12, 13, 32]⟩ = some (trimL s true) := by
    unfold strings_TrimLeft.f
    rw [if_pos ⟨by decide, by decide⟩]
    rfl
  have eR : ∀ t : ByteArray, t.size ≤ 140737488355328 → strings_TrimRight.f t ⟨#[9, 10, 11, 12, 13, 32]⟩ = some (trimR t true) := by
    intro t ht
    unfold strings_TrimRight.f
    rw [if_pos ⟨by omega, by decide, by decide⟩]
    rfl
  unfold runes_Trim.f
  cases a with
  | false =>
    rw [if_neg (by decide)]
    cases b with
    | false => rfl
    | true => rw [if_pos rfl, eR s hs]; rfl
  | true =>
    rw [if_pos rfl, eL]
    simp only [Option.bind_some]
    cases b with
    | false => rfl
    | true => rw [if_pos rfl, eR _ (by omega)]; rfl
/-- THE STATEMENT, at every size. -/
theorem RunesTurns_pure (a0 : ByteArray) (a1 : Int) (a2 a3 : Bool) (h0 : a0.size ≤ 140737488351232) : ∃ k, colanderlaw01_RunesTurns.f k a0 a1 a2 a3 = some true := by
  refine ⟨2 * a0.size + 1048700, ?_⟩
  have eT : colanderref01_Trim.f (2 * a0.size + 1048700) a0 a2 a3 = some (trimR (trimL a0 a2) a3) := ref_left a2 a3 a0.size a0 _ rfl (by omega) (by omega)
  have eC : colanderref01_Case.f a0 a2 = runes_Case.f a0 a2 := rfl
  have eC2 : runes_Case.f a0 a2 = some (strOfNums ((bytesOf a0).map (caseT a2))) := by
    unfold runes_Case.f
    rw [if_pos (by omega)]
  unfold colanderlaw01_RunesTurns.f
  rw [our_Repeat_f a0 a1 _ (by omega), ref_Repeat_f a0 a1 _ (by omega), eC, eC2]
  simp only [Option.bind_some, if_true]
  rw [our_Trim_f a0 a2 a3 (by omega), eT]
  simp only [Option.bind_some, if_true]
  rw [heads_all _ (by omega)]
  rfl
end Go.Proofs.YtfnipedeldhmgaaDoor
