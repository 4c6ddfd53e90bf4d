/- What is split and joined is the text: over plain values. -/
import Derived.Test.YtfnipedeldhmgaaDoorPure5
import Derived.Test.YtfnipedeldhmgaaDoorPx11
namespace Go.Proofs.YtfnipedeldhmgaaDoor
open Go.RowKit Go.Proofs.YtfnipedeldhmgaaDoorW.PrintWords Go.Proofs.YtfnipedeldhmgaaDoorW.PrintLast Go.Proofs.YtfnipedeldhmgaaDoorW.PrintMore
open Go.Proofs.YtfnipedeldhmgaaDoor.P
set_option linter.unusedVariables false
set_option linter.unusedSimpArgs false

def tailJ (by_ : List UInt8) : List ByteArray → List UInt8
  | [] => []
  | p :: r => by_ ++ p.data.toList ++ tailJ by_ r
def joinJ (by_ : List UInt8) : List ByteArray → List UInt8
  | [] => []
  | p :: r => p.data.toList ++ tailJ by_ r
theorem tail_join (by_ : List UInt8) (p : ByteArray) (r : List ByteArray) : tailJ by_ (p :: r) = by_ ++ joinJ by_ (p :: r) := by simp [tailJ, joinJ]
theorem splitL_ne (by_ : List UInt8) (n : Nat) (l : List UInt8) : splitL (n + 1) l by_ ≠ [] := by
  rw [splitL]
  split <;> simp
theorem occ_split (l by_ : List UInt8) (i : Nat) (h : Lib.occAt l by_ i = true) (hi : i + by_.length ≤ l.length) : l = l.take i ++ by_ ++ l.drop (i + by_.length) := by
  rw [Lib.occAt_iff_take _ _ _ hi, beq_iff_eq] at h
  have h2 : l.drop i = (l.drop i).take by_.length ++ (l.drop i).drop by_.length := (List.take_append_drop _ _).symm
  rw [h, List.drop_drop] at h2
  rw [List.append_assoc, ← h2, List.take_append_drop]
theorem split_join (by_ : List UInt8) (hb : by_ ≠ []) : ∀ (n : Nat) (l : List UInt8), l.length + 1 ≤ n → joinJ by_ (splitL n l by_) = l := by
  have hbl : 0 < by_.length := List.length_pos_iff.2 hb
  intro n
  induction n with
  | zero => intro l h; omega
  | succ n ih =>
    intro l h
    rw [splitL]
    rcases Lib.index_spec l by_ with ⟨h1, h2⟩ | ⟨i, h1, h2, h3, h4⟩
    · rw [h1, if_neg (by omega)]
      simp [joinJ, tailJ]
    · have hr := Lib.index_room l by_ (by omega)
      rw [h1] at hr ⊢
      rw [if_pos (by omega), Int.toNat_natCast]
      have hrest := ih (l.drop (i + by_.length)) (by rw [List.length_drop]; omega)
      obtain ⟨m, rfl⟩ : ∃ m, n = m + 1 := ⟨n - 1, by omega⟩
      cases hs : splitL (m + 1) (l.drop (i + by_.length)) by_ with
      | nil => exact absurd hs (splitL_ne _ _ _)
      | cons p r =>
        rw [hs] at hrest
        rw [joinJ, tail_join, hrest]
        exact (by rw [List.append_assoc] : l.take i ++ (by_ ++ l.drop (i + by_.length)) = l.take i ++ by_ ++ l.drop (i + by_.length)).trans (occ_split l by_ i h3 (by omega)).symm
theorem split_free (by_ : List UInt8) (hb : by_ ≠ []) : ∀ (n : Nat) (l : List UInt8), ∀ p ∈ splitL n l by_, ∀ j, Lib.occAt p.data.toList by_ j = false := by
  have hbl : 0 < by_.length := List.length_pos_iff.2 hb
  intro n
  induction n with
  | zero => intro l p hp; simp [splitL] at hp
  | succ n ih =>
    intro l p hp j
    rw [splitL] at hp
    rcases Lib.index_spec l by_ with ⟨h1, h2⟩ | ⟨i, h1, h2, h3, h4⟩
    · rw [h1, if_neg (by omega)] at hp
      simp at hp
      subst hp
      show Lib.occAt l by_ j = false
      by_cases hj : j ≤ l.length
      · exact h2 j hj
      · cases ho : Lib.occAt l by_ j with
        | false => rfl
        | true =>
          rcases Lib.occAt_room ho with h | h
          · omega
          · exact absurd h hb
    · rw [h1, if_pos (by omega), Int.toNat_natCast] at hp
      rcases List.mem_cons.1 hp with e | e
      · subst e
        show Lib.occAt (l.take i) by_ j = false
        cases ho : Lib.occAt (l.take i) by_ j with
        | false => rfl
        | true =>
          rcases Lib.occAt_room ho with h | h
          · rw [List.length_take] at h
            have h5 := h4 j (by omega)
            rw [Lib.occAt_iff_take _ _ _ (by rw [List.length_take]; omega), List.drop_take, List.take_take] at ho
            rw [Lib.occAt_iff_take _ _ _ (by omega)] at h5
            rw [Nat.min_eq_left (by omega)] at ho
            rw [ho] at h5
            cases h5
          · exact absurd h hb
      · exact ih _ p e j
theorem pieces_flat (s : ByteArray) : ∀ n, tailJ [] (piecesTo s n) = s.data.toList.take (st s n) := by
  intro n
  have key : ∀ (l : List ByteArray) (p : ByteArray), tailJ [] (l ++ [p]) = tailJ [] l ++ p.data.toList := by
    intro l p
    induction l with
    | nil => simp [tailJ]
    | cons a b ih => rw [List.cons_append, tailJ, tailJ, ih]; simp
  induction n with
  | zero => rw [st_zero]; simp [piecesTo, tailJ]
  | succ n ih =>
    have hm := st_mono s n 1
    rw [piecesTo_succ, key, ih, piece1, ext_list]
    rw [List.drop_take]
    have : st s (n + 1) = st s n + (st s (n + 1) - st s n) := by omega
    conv => rhs; rw [this, List.take_add]
theorem joinJ_nil (l : List ByteArray) : joinJ [] l = tailJ [] l := by cases l <;> simp [joinJ, tailJ]
theorem splitS_join (s by_ : ByteArray) : joinJ by_.data.toList (splitS s by_) = s.data.toList := by
  unfold splitS
  by_cases hb : by_.toList = []
  · rw [if_pos hb]
    rw [toList_data] at hb
    rw [hb, joinJ_nil, pieces_flat, st_end s _ (Nat.le_refl _), List.take_of_length_le (by rw [size_list]; exact Nat.le_refl _)]
  · rw [if_neg hb]
    by_cases h : s.toList = []
    · rw [if_pos h]
      rw [toList_data] at h
      rw [h]
      rfl
    · rw [if_neg h]
      exact split_join _ (by rw [← toList_data]; exact hb) _ _ (by rw [size_list]; exact Nat.le_refl _)
theorem splitS_free (s by_ : ByteArray) (hb : by_.toList ≠ []) : ∀ p ∈ splitS s by_, ∀ j, Lib.occAt p.data.toList by_.data.toList j = false := by
  unfold splitS
  rw [if_neg hb]
  intro p hp j
  by_cases h : s.toList = []
  · rw [if_pos h] at hp
    cases hp
  · rw [if_neg h] at hp
    exact split_free _ (by rw [← toList_data]; exact hb) _ _ p hp j
/-! ### the law's loops -/
def wt : List ByteArray → Nat
  | [] => 0
  | p :: r => p.size + 6 + wt r
theorem drop_bytes {l : List ByteArray} {i : Nat} (h : i < l.length) : l.drop i = rdOf ByteArray.empty l (i : Int) :: l.drop (i + 1) := by
  rw [List.drop_eq_getElem_cons h]
  simp [rdOf, h]
theorem wt_drop {l : List ByteArray} {i : Nat} (h : i < l.length) : wt (l.drop i) = (rdOf ByteArray.empty l (i : Int)).size + 6 + wt (l.drop (i + 1)) := by
  rw [drop_bytes h, wt]
theorem mem_rd {l : List ByteArray} {i : Nat} (h : i < l.length) : rdOf ByteArray.empty l (i : Int) ∈ l := by
  have : rdOf ByteArray.empty l (i : Int) ∈ l.drop i := by rw [drop_bytes h]; exact List.mem_cons_self
  exact List.mem_of_mem_drop this
theorem law_l2 (s by_ t : ByteArray) (l : List ByteArray) (i : Nat) (hi : i < l.length) (hb : by_.toList ≠ []) (hbz : by_.size ≤ 1073741824) (hpz : (rdOf ByteArray.empty l (i : Int)).size ≤ 1073741824) (hil : l.length ≤ 1099511627776)
    (hf : ∀ j, Lib.occAt (rdOf ByteArray.empty l (i : Int)).data.toList by_.data.toList j = false) (R : Nat) (res : Option Bool) (hn : ∀ k, R ≤ k → colanderlaw01_RunesJoined.l1 k s by_ l t ((i + 1 : Nat) : Int) = res) :
    ∀ (b j k : Nat), (rdOf ByteArray.empty l (i : Int)).size ≤ j + b → j ≤ (rdOf ByteArray.empty l (i : Int)).size + 1 → b + 3 + R ≤ k → colanderlaw01_RunesJoined.l2 k s by_ l t i j = res := by
  have hbl : 0 < by_.size := by
    rw [← size_list]
    rw [toList_data] at hb
    exact List.length_pos_iff.2 hb
  intro b
  induction b with
  | zero =>
    intro j k h hj hk
    obtain ⟨k, rfl⟩ : ∃ m, k = m + 1 := ⟨k - 1, by omega⟩
    simp only [colanderlaw01_RunesJoined.l2]
    rw [if_pos (by omega), if_pos (by omega), w64add j by_.size (by omega), if_neg (by omega), w64one i (by omega)]
    exact hn k (by omega)
  | succ b ih =>
    intro j k h hj hk
    obtain ⟨k, rfl⟩ : ∃ m, k = m + 1 := ⟨k - 1, by omega⟩
    simp only [colanderlaw01_RunesJoined.l2]
    rw [if_pos (by omega), if_pos (by omega), w64add j by_.size (by omega)]
    by_cases hle : j + by_.size ≤ (rdOf ByteArray.empty l (i : Int)).size
    · have hne : ¬ ((rdOf ByteArray.empty l (i : Int)).extract j (j + by_.size)).toList = by_.toList := by
        intro e
        have := hf j
        rw [Lib.occAt_iff_take _ _ _ (by rw [size_list, size_list]; omega)] at this
        rw [toList_data, toList_data, Lib.extract_data, show j + by_.size - j = by_.size by omega] at e
        rw [size_list, e] at this
        simp at this
      rw [if_pos (by omega), if_pos (by omega), if_pos (by omega), Int.toNat_natCast, Int.toNat_natCast, if_neg hne, w64one j (by omega)]
      exact ih (j + 1) k (by omega) (by omega) (by omega)
    · rw [if_neg (by omega), w64one i (by omega)]
      exact hn k (by omega)
theorem law_l1 (s by_ t : ByteArray) (l : List ByteArray) (hbz : by_.size ≤ 1073741824) (hpz : ∀ p ∈ l, p.size ≤ 1073741824) (hil : l.length ≤ 1099511627776) (ht : t.toList = s.toList)
    (hf : by_.toList ≠ [] → ∀ p ∈ l, ∀ j, Lib.occAt p.data.toList by_.data.toList j = false) :
    ∀ (b i k : Nat), l.length ≤ i + b → i ≤ l.length → wt (l.drop i) + 40 ≤ k → colanderlaw01_RunesJoined.l1 k s by_ l t i = some true := by
  have fin : ∀ (k i : Nat), 32 ≤ k → colanderlaw01_RunesJoined.j2 k s by_ l t (i : Int) false = some true := by
    intro k i hk
    obtain ⟨k, rfl⟩ : ∃ m, k = m + 1 := ⟨k - 1, by omega⟩
    simp only [colanderlaw01_RunesJoined.j2]
    rw [if_neg (by decide), if_pos ht, heads_all k (by omega)]
    rfl
  intro b
  induction b with
  | zero =>
    intro i k h hi hk
    obtain ⟨k, rfl⟩ : ∃ m, k = m + 1 := ⟨k - 1, by omega⟩
    simp only [colanderlaw01_RunesJoined.l1]
    rw [if_neg (by omega)]
    exact fin k i (by omega)
  | succ b ih =>
    intro i k h hi hk
    obtain ⟨k, rfl⟩ : ∃ m, k = m + 1 := ⟨k - 1, by omega⟩
    simp only [colanderlaw01_RunesJoined.l1]
    by_cases hlt : i < l.length
    · rw [if_pos (by omega)]
      by_cases hb : by_.toList = []
      · rw [hb]
        exact fin k i (by omega)
      · have e1 : (by_.toList != []) = true := by simpa using hb
        rw [e1]
        have hw := wt_drop hlt
        obtain ⟨k, rfl⟩ : ∃ m, k = m + 1 := ⟨k - 1, by omega⟩
        simp only [colanderlaw01_RunesJoined.j2]
        rw [if_pos trivial]
        exact law_l2 s by_ t l i hlt hb hbz (hpz _ (mem_rd hlt)) hil (hf hb _ (mem_rd hlt)) (wt (l.drop (i + 1)) + 40) (some true) (fun k' hk' => ih (i + 1) k' (by omega) (by omega) hk') (rdOf ByteArray.empty l (i : Int)).size 0 k (by omega) (by omega) (by omega)
    · rw [if_neg (by omega)]
      exact fin k i (by omega)
theorem law_l0 (s by_ : ByteArray) (l : List ByteArray) (hs : s.size ≤ 1073741824) (hbz : by_.size ≤ 1073741824) (hpz : ∀ p ∈ l, p.size ≤ 1073741824) (hil : l.length ≤ 1099511627776)
    (hf : by_.toList ≠ [] → ∀ p ∈ l, ∀ j, Lib.occAt p.data.toList by_.data.toList j = false) :
    ∀ (b i : Nat) (t : ByteArray) (k : Nat), 1 ≤ i → l.length ≤ i + b → i ≤ l.length → t.data.toList ++ tailJ by_.data.toList (l.drop i) = s.data.toList → wt l + 41 + b ≤ k → colanderlaw01_RunesJoined.l0 k s by_ l t i = some true := by
  intro b
  have fin : ∀ (t : ByteArray) (k : Nat), t.data.toList = s.data.toList → wt l + 40 ≤ k → colanderlaw01_RunesJoined.l1 k s by_ l t 0 = some true := by
    intro t k ht hk
    exact law_l1 s by_ t l hbz hpz hil (by rw [toList_data, toList_data, ht]) hf l.length 0 k (by omega) (by omega) (by rw [List.drop_zero]; omega)
  induction b with
  | zero =>
    intro i t k h1 h hi ht hk
    obtain ⟨k, rfl⟩ : ∃ m, k = m + 1 := ⟨k - 1, by omega⟩
    simp only [colanderlaw01_RunesJoined.l0]
    rw [List.drop_of_length_le (by omega), tailJ, List.append_nil] at ht
    rw [if_neg (by omega)]
    exact fin t k ht (by omega)
  | succ b ih =>
    intro i t k h1 h hi ht hk
    obtain ⟨k, rfl⟩ : ∃ m, k = m + 1 := ⟨k - 1, by omega⟩
    simp only [colanderlaw01_RunesJoined.l0]
    by_cases hlt : i < l.length
    · have hz := hpz _ (mem_rd hlt)
      have htz : t.size ≤ s.size := by
        have := congrArg List.length ht
        rw [List.length_append, size_list, size_list] at this
        omega
      rw [drop_bytes hlt, tailJ] at ht
      have e1 : (t ++ by_).size = t.size + by_.size := ByteArray.size_append
      rw [if_pos (by omega), if_pos (by omega), if_pos (by omega), if_pos (by omega), if_pos (by omega), w64one i (by omega)]
      refine ih (i + 1) _ k (by omega) (by omega) (by omega) ?_ (by omega)
      rw [← ht, ByteArray.data_append, ByteArray.data_append, Array.toList_append, Array.toList_append]
      simp
    · rw [if_neg (by omega)]
      rw [List.drop_of_length_le (by omega), tailJ, List.append_nil] at ht
      exact fin t k ht (by omega)
theorem joinJ_piece (by_ : List UInt8) (l : List ByteArray) : ∀ p ∈ l, p.size ≤ (tailJ by_ l).length := by
  induction l with
  | nil => intro p hp; cases hp
  | cons a b ih =>
    intro p hp
    have ha := size_list a
    rw [tailJ, List.length_append, List.length_append]
    rcases List.mem_cons.1 hp with e | e
    · subst e; omega
    · have := ih p e
      omega
/-- THE STATEMENT: what is split and joined is the text, over plain values. -/
theorem RunesJoined_pure (a0 a1 : ByteArray) (h0 : a0.size ≤ 536870912) (h1 : a1.size ≤ 536870912) : ∃ k, colanderlaw01_RunesJoined.f k a0 a1 = some true := by
  have hj := splitS_join a0 a1
  have hfr := splitS_free a0 a1
  have hlen := splitS_len a0 a1
  have hz0 := size_list a0
  have hz1 := size_list a1
  refine ⟨wt (splitS a0 a1) + (splitS a0 a1).length + a0.size + 60, ?_⟩
  unfold colanderlaw01_RunesJoined.f
  rw [our_Split_f a0 a1 (by omega) _ (by omega)]
  simp only [Option.bind_some]
  generalize hl : splitS a0 a1 = l at *
  have hpz : ∀ p ∈ l, p.size ≤ 1073741824 := by
    intro p hp
    have h3 := joinJ_piece a1.data.toList l p hp
    cases l with
    | nil => cases hp
    | cons x r =>
      have h4 : (tailJ a1.data.toList (x :: r)).length = a1.size + a0.size := by rw [tail_join, hj, List.length_append, hz0, hz1]
      omega
  cases l with
  | nil =>
    have ha : a0.data.toList = [] := hj.symm
    obtain ⟨k, hk⟩ : ∃ k, wt ([] : List ByteArray) + ([] : List ByteArray).length + a0.size + 60 = k + 1 := ⟨_, rfl⟩
    rw [hk]
    simp only [colanderlaw01_RunesJoined.l0]
    rw [if_neg (by simp)]
    exact law_l1 a0 a1 ⟨#[]⟩ [] (by omega) (fun p hp => by cases hp) (by simp) (by rw [toList_data, toList_data, ha]) (fun _ p hp => by cases hp) 0 0 k (by simp) (by simp) (by simp [wt] at hk ⊢; omega)
  | cons x r =>
    obtain ⟨k, hk⟩ : ∃ k, wt (x :: r) + (x :: r).length + a0.size + 60 = k + 1 := ⟨_, rfl⟩
    rw [hk]
    have hx := hpz x List.mem_cons_self
    simp only [colanderlaw01_RunesJoined.l0]
    have hr0 : rdOf ByteArray.empty (x :: r) 0 = x := rfl
    rw [if_pos (by simp <;> omega), if_neg (by omega), if_pos (by omega), hr0, if_pos (by show 0 + x.size ≤ _; omega)]
    rw [show wrap64 ((0 : Int) + 1) = ((1 : Nat) : Int) by rw [w64] <;> omega]
    refine law_l0 a0 a1 (x :: r) (by omega) (by omega) hpz (by omega) hfr r.length 1 _ k (by omega) (by simp; omega) (by simp) ?_ (by simp at hk ⊢; omega)
    rw [← hj, joinJ, ByteArray.data_append, Array.toList_append]
    simp
end Go.Proofs.YtfnipedeldhmgaaDoor
