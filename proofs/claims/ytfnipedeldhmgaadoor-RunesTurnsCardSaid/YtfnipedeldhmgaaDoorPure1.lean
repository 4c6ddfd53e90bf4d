/- The reference's piece is the model's own decoding of UTF-8, and what follows of it: plain Lean over the printed functions. -/
import Derived.Test.YtfnipedeldhmgaaDoorPx4
namespace Go.Proofs.YtfnipedeldhmgaaDoor
open Go.RowKit Go.Proofs.YtfnipedeldhmgaaDoorW.PrintWords Go.Proofs.YtfnipedeldhmgaaDoorW.PrintLast Go.Proofs.YtfnipedeldhmgaaDoorW.PrintMore
open Go.Proofs.YtfnipedeldhmgaaDoor.P
set_option linter.unusedVariables false
set_option linter.unusedSimpArgs false

theorem w64 {x : Int} (h0 : -9223372036854775808 ≤ x) (h1 : x ≤ 9223372036854775807) : wrap64 x = x := by unfold wrap64; omega
/-- The byte at a place, as a number. -/
def byteN (s : ByteArray) (i : Nat) : Nat := (s.get! i).toNat
theorem byteN_lt (s : ByteArray) (i : Nat) : byteN s i < 256 := (s.get! i).toNat_lt
theorem bt_byteN (s : ByteArray) (i : Nat) (h : i < s.size) : bt s (i : Int) = (byteN s i : Int) := by
  unfold bt byteN
  rw [Int.toNat_natCast, dif_pos h]
  have : s.get! i = s[i]'h := by
    simp [ByteArray.get!, getElem!_pos, h]
    rfl
  rw [this]
theorem and_more : ∀ b : Fin 256, (Go.bits .and .u8 ((b.val : Nat) : Int) 192 == 128) = decide (b.val / 64 = 2) := by decide +kernel
theorem and_224 : ∀ b : Fin 256, decide (Go.bits .and .u8 ((b.val : Nat) : Int) 224 = 192) = decide (b.val / 32 = 6) := by decide +kernel
theorem and_240 : ∀ b : Fin 256, decide (Go.bits .and .u8 ((b.val : Nat) : Int) 240 = 224) = decide (b.val / 16 = 14) := by decide +kernel
theorem and_248 : ∀ b : Fin 256, decide (Go.bits .and .u8 ((b.val : Nat) : Int) 248 = 240) = decide (b.val / 8 = 30) := by decide +kernel
theorem more_eq (b : Nat) (h : b < 256) : colanderref01_more.f (b : Int) = some (decide (b / 64 = 2)) := by
  unfold colanderref01_more.f
  have := and_more ⟨b, h⟩
  simp only at this
  rw [this]
theorem i64_join (x y : Nat) (hx : x < 67108864) (hy : y < 64) : Go.bits .or .i64 ((x : Int) * 64) (y : Int) = (x * 64 + y : Nat) := by
  have hk : ∀ n : Int, 0 ≤ n → n < 2 ^ 40 → IntKind.i64.wrap n = n := by
    intro n h0 h1
    rw [IntKind.wrap_i64]
    omega
  rw [bits_join .i64 40 (by decide) hk 6 ((x : Int) * 64) (y : Int) (by omega) (by omega) (by omega) (by omega) (by omega) (by omega)]
  omega

/-- One byte more. -/
theorem piece_step (k : Nat) (s : ByteArray) (pos n p j : Nat) (least : Int) (hs : s.size ≤ 140737488355328) (hj : j < n) (hn : n ≤ 4) (hin : pos + j < s.size) (hp : p < 67108864) :
    colanderref01_piece.l0 (k + 1) s pos n p least j = if byteN s (pos + j) / 64 = 2 then colanderref01_piece.l0 k s pos n ((p * 64 + byteN s (pos + j) % 64 : Nat) : Int) least ((j + 1 : Nat) : Int) else some (65533, 1, false) := by
  have e1 : wrap64 ((pos : Int) + (j : Int)) = ((pos + j : Nat) : Int) := by rw [w64] <;> omega
  have hb := byteN_lt s (pos + j)
  have e2 : wrap64 ((j : Int) + 1) = ((j + 1 : Nat) : Int) := by rw [w64] <;> omega
  have e3 : wrap64 ((p : Int) * 64) = (p : Int) * 64 := by rw [w64] <;> omega
  have e4 : wrap64 (Go.bits .and .u8 ((byteN s (pos + j) : Nat) : Int) 63) = ((byteN s (pos + j) % 64 : Nat) : Int) := by
    rw [u8_and63 _ (by omega) (by omega), w64] <;> omega
  simp only [colanderref01_piece.l0]
  rw [if_pos (by omega), e1, if_pos (by omega), if_pos (by omega), bt_byteN s _ hin, more_eq _ hb]
  simp only [Option.bind_some]
  rw [e2, e3, e4, i64_join _ _ hp (by omega)]
  by_cases h : byteN s (pos + j) / 64 = 2
  · simp [h]
  · simp [h]
theorem right_eq (p : Nat) : colanderref01_Right.f (p : Int) = some (decide (p ≤ 1114111) && (decide (p < 55296) || decide (57343 < p))) := by
  unfold colanderref01_Right.f
  rw [if_pos (by omega)]
  by_cases h1 : (p : Int) ≤ 1114111
  · rw [if_pos h1]
    by_cases h2 : (p : Int) < 55296
    · rw [if_pos h2]
      have a1 : p ≤ 1114111 := by omega
      have a2 : p < 55296 := by omega
      simp [a1, a2]
    · rw [if_neg h2]
      have a1 : p ≤ 1114111 := by omega
      have a2 : ¬ p < 55296 := by omega
      simp [a1, a2]
      omega
  · rw [if_neg h1]
    have a1 : ¬ p ≤ 1114111 := by omega
    simp [a1]
/-- All its bytes are read. -/
theorem piece_last (k : Nat) (s : ByteArray) (pos n p : Nat) (least : Nat) :
    colanderref01_piece.l0 (k + 1) s pos n p least n = if p < least then some (65533, 1, false) else if p ≤ 1114111 ∧ (p < 55296 ∨ 57343 < p) then some ((p : Int), (n : Int), true) else some (65533, 1, false) := by
  simp only [colanderref01_piece.l0]
  rw [if_neg (by omega), right_eq]
  by_cases h : p < least
  · rw [if_pos h, if_pos (by omega)]
  · rw [if_neg h, if_neg (by omega)]
    simp only [Option.bind_some]
    by_cases h2 : p ≤ 1114111 ∧ (p < 55296 ∨ 57343 < p)
    · rw [if_pos h2]
      simp [h2]
    · rw [if_neg h2]
      simp [h2]
/-- The model's decoding, over bytes. -/
theorem decode_byteN (s : ByteArray) (pos : Nat) (hp : pos < s.size) : Utf8.decode s pos =
    if byteN s pos < 128 then (byteN s pos, 1)
    else if byteN s pos / 32 = 6 ∧ pos + 1 < s.size ∧ byteN s (pos + 1) / 64 = 2 then
      (if 128 ≤ (byteN s pos % 32) * 64 + byteN s (pos + 1) % 64 then ((byteN s pos % 32) * 64 + byteN s (pos + 1) % 64, 2) else (65533, 1))
    else if byteN s pos / 16 = 14 ∧ pos + 2 < s.size ∧ byteN s (pos + 1) / 64 = 2 ∧ byteN s (pos + 2) / 64 = 2 then
      (if 2048 ≤ (byteN s pos % 16) * 4096 + (byteN s (pos + 1) % 64) * 64 + byteN s (pos + 2) % 64 ∧ ((byteN s pos % 16) * 4096 + (byteN s (pos + 1) % 64) * 64 + byteN s (pos + 2) % 64 < 55296 ∨ 57343 < (byteN s pos % 16) * 4096 + (byteN s (pos + 1) % 64) * 64 + byteN s (pos + 2) % 64) then ((byteN s pos % 16) * 4096 + (byteN s (pos + 1) % 64) * 64 + byteN s (pos + 2) % 64, 3) else (65533, 1))
    else if byteN s pos / 8 = 30 ∧ pos + 3 < s.size ∧ byteN s (pos + 1) / 64 = 2 ∧ byteN s (pos + 2) / 64 = 2 ∧ byteN s (pos + 3) / 64 = 2 then
      (if 65536 ≤ (byteN s pos % 8) * 262144 + (byteN s (pos + 1) % 64) * 4096 + (byteN s (pos + 2) % 64) * 64 + byteN s (pos + 3) % 64 ∧ (byteN s pos % 8) * 262144 + (byteN s (pos + 1) % 64) * 4096 + (byteN s (pos + 2) % 64) * 64 + byteN s (pos + 3) % 64 ≤ 1114111 then ((byteN s pos % 8) * 262144 + (byteN s (pos + 1) % 64) * 4096 + (byteN s (pos + 2) % 64) * 64 + byteN s (pos + 3) % 64, 4) else (65533, 1))
    else (65533, 1) := by
  have h0 := byteN_lt s pos; have h1 := byteN_lt s (pos + 1); have h2 := byteN_lt s (pos + 2); have h3 := byteN_lt s (pos + 3)
  have e : Utf8.decode s pos = (let b0 := byteN s pos; let b1 := byteN s (pos + 1); let b2 := byteN s (pos + 2); let b3 := byteN s (pos + 3)
      let c1 := decide (pos + 1 < s.size) && b1 / 64 == 2; let c2 := decide (pos + 2 < s.size) && b2 / 64 == 2; let c3 := decide (pos + 3 < s.size) && b3 / 64 == 2
      if b0 < 0x80 then (b0, 1)
      else if b0 / 32 == 6 && c1 then (let c := (b0 % 32) * 64 + b1 % 64; if c ≥ 0x80 then (c, 2) else (0xFFFD, 1))
      else if b0 / 16 == 14 && c1 && c2 then (let c := (b0 % 16) * 4096 + (b1 % 64) * 64 + b2 % 64; if c ≥ 0x800 && Utf8.valid c then (c, 3) else (0xFFFD, 1))
      else if b0 / 8 == 30 && c1 && c2 && c3 then (let c := (b0 % 8) * 262144 + (b1 % 64) * 4096 + (b2 % 64) * 64 + b3 % 64; if c ≥ 0x10000 && Utf8.valid c then (c, 4) else (0xFFFD, 1))
      else (0xFFFD, 1)) := rfl
  rw [e]
  clear e
  generalize byteN s pos = b0 at *
  generalize byteN s (pos + 1) = b1 at *
  generalize byteN s (pos + 2) = b2 at *
  generalize byteN s (pos + 3) = b3 at *
  have hv : ∀ c : Nat, Utf8.valid (c : Int) = true ↔ (c < 55296 ∨ (57343 < c ∧ c ≤ 1114111)) := by
    intro c
    simp [Utf8.valid]
    omega
  simp only [Bool.and_eq_true, beq_iff_eq, decide_eq_true_eq, hv]
  have v3 : (b0 % 16) * 4096 + (b1 % 64) * 64 + b2 % 64 < 65536 := by omega
  by_cases k0 : b0 < 128
  · rw [if_pos k0, if_pos k0]
  rw [if_neg k0, if_neg k0]
  by_cases k1 : b0 / 32 = 6 ∧ pos + 1 < s.size ∧ b1 / 64 = 2
  · rw [if_pos k1, if_pos k1]
  rw [if_neg k1, if_neg k1]
  by_cases k2 : b0 / 16 = 14 ∧ pos + 2 < s.size ∧ b1 / 64 = 2 ∧ b2 / 64 = 2
  · rw [if_pos (by omega), if_pos k2]
    exact ite_congr (propext (by omega)) (fun _ => rfl) (fun _ => rfl)
  rw [if_neg (by omega), if_neg k2]
  by_cases k3 : b0 / 8 = 30 ∧ pos + 3 < s.size ∧ b1 / 64 = 2 ∧ b2 / 64 = 2 ∧ b3 / 64 = 2
  · rw [if_pos (by omega), if_pos k3]
    exact ite_congr (propext (by omega)) (fun _ => rfl) (fun _ => rfl)
  rw [if_neg (by omega), if_neg k3]
/-- Is the piece at a place a code point's own bytes? -/
def okAt (s : ByteArray) (pos : Nat) : Bool := !decide ((Utf8.decode s pos).1 = 65533 ∧ (Utf8.decode s pos).2 = 1)
def bad : Option (Int × Int × Bool) := some (65533, 1, false)
def fin (c n least : Nat) : Option (Int × Int × Bool) := if c < least then bad else if c ≤ 1114111 ∧ (c < 55296 ∨ 57343 < c) then some ((c : Int), (n : Int), true) else bad
theorem run2 (k : Nat) (s : ByteArray) (pos p : Nat) (hs : s.size ≤ 140737488355328) (h1 : pos + 1 < s.size) (hp : p < 32) :
    colanderref01_piece.l0 (k + 5) s pos 2 p 128 1 = if byteN s (pos + 1) / 64 = 2 then fin (p * 64 + byteN s (pos + 1) % 64) 2 128 else bad := by
  have e1 : colanderref01_piece.l0 (k + 5) s pos 2 p 128 1 = _ := piece_step (k + 4) s pos 2 p 1 128 hs (by omega) (by omega) h1 (by omega)
  rw [e1]
  exact ite_congr rfl (fun _ => piece_last (k + 3) s pos 2 _ 128) (fun _ => rfl)
theorem run3 (k : Nat) (s : ByteArray) (pos p : Nat) (hs : s.size ≤ 140737488355328) (h2 : pos + 2 < s.size) (hp : p < 32) :
    colanderref01_piece.l0 (k + 5) s pos 3 p 2048 1 = if byteN s (pos + 1) / 64 = 2 then (if byteN s (pos + 2) / 64 = 2 then fin ((p * 64 + byteN s (pos + 1) % 64) * 64 + byteN s (pos + 2) % 64) 3 2048 else bad) else bad := by
  have e1 : colanderref01_piece.l0 (k + 5) s pos 3 p 2048 1 = _ := piece_step (k + 4) s pos 3 p 1 2048 hs (by omega) (by omega) (by omega) (by omega)
  rw [e1]
  refine ite_congr rfl (fun _ => ?_) (fun _ => rfl)
  have e2 : colanderref01_piece.l0 (k + 4) s pos 3 _ 2048 _ = _ := piece_step (k + 3) s pos 3 (p * 64 + byteN s (pos + 1) % 64) 2 2048 hs (by omega) (by omega) h2 (by omega)
  refine e2.trans ?_
  exact ite_congr rfl (fun _ => piece_last (k + 2) s pos 3 _ 2048) (fun _ => rfl)
theorem run4 (k : Nat) (s : ByteArray) (pos p : Nat) (hs : s.size ≤ 140737488355328) (h3 : pos + 3 < s.size) (hp : p < 32) :
    colanderref01_piece.l0 (k + 5) s pos 4 p 65536 1 = if byteN s (pos + 1) / 64 = 2 then (if byteN s (pos + 2) / 64 = 2 then (if byteN s (pos + 3) / 64 = 2 then fin (((p * 64 + byteN s (pos + 1) % 64) * 64 + byteN s (pos + 2) % 64) * 64 + byteN s (pos + 3) % 64) 4 65536 else bad) else bad) else bad := by
  have e1 : colanderref01_piece.l0 (k + 5) s pos 4 p 65536 1 = _ := piece_step (k + 4) s pos 4 p 1 65536 hs (by omega) (by omega) (by omega) (by omega)
  rw [e1]
  refine ite_congr rfl (fun _ => ?_) (fun _ => rfl)
  have e2 : colanderref01_piece.l0 (k + 4) s pos 4 _ 65536 _ = _ := piece_step (k + 3) s pos 4 (p * 64 + byteN s (pos + 1) % 64) 2 65536 hs (by omega) (by omega) (by omega) (by omega)
  refine e2.trans ?_
  refine ite_congr rfl (fun _ => ?_) (fun _ => rfl)
  have e3 : colanderref01_piece.l0 (k + 3) s pos 4 _ 65536 _ = _ := piece_step (k + 2) s pos 4 ((p * 64 + byteN s (pos + 1) % 64) * 64 + byteN s (pos + 2) % 64) 3 65536 hs (by omega) (by omega) h3 (by omega)
  refine e3.trans ?_
  exact ite_congr rfl (fun _ => piece_last (k + 1) s pos 4 _ 65536) (fun _ => rfl)
def asPiece (d : Nat × Nat) : Option (Int × Int × Bool) := some ((d.1 : Int), (d.2 : Int), !decide (d.1 = 65533 ∧ d.2 = 1))
theorem asPiece_bad : asPiece (65533, 1) = bad := rfl
theorem asPiece_ascii (b : Nat) (h : b < 128) : asPiece (b, 1) = some ((b : Int), 1, true) := by
  have : ¬ b = 65533 := by omega
  simp [asPiece, this]
theorem asPiece_good (c n : Nat) (h : 2 ≤ n) : asPiece (c, n) = some ((c : Int), (n : Int), true) := by
  have : ¬ n = 1 := by omega
  simp [asPiece, this]
theorem piece_eq (s : ByteArray) (pos : Nat) (hp : pos < s.size) (hs : s.size ≤ 140737488355328) (k : Nat) (hk : 6 ≤ k) :
    colanderref01_piece.f k s pos = some (((Utf8.decode s pos).1 : Int), ((Utf8.decode s pos).2 : Int), okAt s pos) := by
  obtain ⟨k, rfl⟩ : ∃ m, k = m + 6 := ⟨k - 6, by omega⟩
  have h0 := byteN_lt s pos
  have a2 : (Go.bits .and .u8 ((byteN s pos : Nat) : Int) 224 = 192) ↔ byteN s pos / 32 = 6 := by
    have := and_224 ⟨byteN s pos, h0⟩
    simpa using this
  have a3 : (Go.bits .and .u8 ((byteN s pos : Nat) : Int) 240 = 224) ↔ byteN s pos / 16 = 14 := by
    have := and_240 ⟨byteN s pos, h0⟩
    simpa using this
  have a4 : (Go.bits .and .u8 ((byteN s pos : Nat) : Int) 248 = 240) ↔ byteN s pos / 8 = 30 := by
    have := and_248 ⟨byteN s pos, h0⟩
    simpa using this
  have ez : wrap64 ((s.size : Int) - (pos : Int)) = ((s.size - pos : Nat) : Int) := by rw [w64] <;> omega
  show _ = asPiece (Utf8.decode s pos)
  rw [decode_byteN s pos hp]
  simp only [colanderref01_piece.f]
  rw [if_pos (by omega), if_pos (by omega), bt_byteN s pos hp]
  by_cases k0 : byteN s pos < 128
  · rw [if_pos (by omega), if_pos k0, w64 (by omega) (by omega), asPiece_ascii _ k0]
  rw [if_neg (by omega), if_neg k0]
  by_cases k1 : byteN s pos / 32 = 6
  · rw [if_pos (a2.2 k1), u8_and31 _ (by omega) (by omega), w64 (by omega) (by omega)]
    simp only [colanderref01_piece.j0, ez]
    rw [show ((byteN s pos : Int) % 32) = ((byteN s pos % 32 : Nat) : Int) by omega]
    have q2 : ¬ byteN s pos / 16 = 14 := by omega
    have q3 : ¬ byteN s pos / 8 = 30 := by omega
    rw [if_neg (show ¬ (byteN s pos / 16 = 14 ∧ _) from fun h => q2 h.1), if_neg (show ¬ (byteN s pos / 8 = 30 ∧ _) from fun h => q3 h.1)]
    by_cases c1 : pos + 1 < s.size
    · rw [if_neg (by omega), run2 k s pos _ hs c1 (by omega)]
      by_cases d1 : byteN s (pos + 1) / 64 = 2
      · rw [if_pos d1, if_pos ⟨k1, c1, d1⟩]
        unfold fin
        by_cases e1 : byteN s pos % 32 * 64 + byteN s (pos + 1) % 64 < 128
        · rw [if_pos e1, if_neg (by omega), asPiece_bad]
        · rw [if_neg e1, if_pos (by omega), if_pos (by omega), asPiece_good _ _ (by omega)]
      · rw [if_neg d1, if_neg (fun h => d1 h.2.2), asPiece_bad]
    · rw [if_pos (by omega), if_neg (fun h => c1 h.2.1)]
      rfl
  rw [if_neg (fun h => k1 (a2.1 h)), if_neg (show ¬ (byteN s pos / 32 = 6 ∧ _) from fun h => k1 h.1)]
  by_cases k2 : byteN s pos / 16 = 14
  · rw [if_pos (a3.2 k2), u8_and15 _ (by omega) (by omega), w64 (by omega) (by omega)]
    simp only [colanderref01_piece.j0, ez]
    rw [show ((byteN s pos : Int) % 16) = ((byteN s pos % 16 : Nat) : Int) by omega]
    have q3 : ¬ byteN s pos / 8 = 30 := by omega
    rw [if_neg (show ¬ (byteN s pos / 8 = 30 ∧ _) from fun h => q3 h.1)]
    by_cases c2 : pos + 2 < s.size
    · rw [if_neg (by omega), run3 k s pos _ hs c2 (by omega)]
      by_cases d1 : byteN s (pos + 1) / 64 = 2
      · by_cases d2 : byteN s (pos + 2) / 64 = 2
        · rw [if_pos d1, if_pos d2, if_pos ⟨k2, c2, d1, d2⟩]
          rw [show (byteN s pos % 16 * 64 + byteN s (pos + 1) % 64) * 64 + byteN s (pos + 2) % 64 = byteN s pos % 16 * 4096 + byteN s (pos + 1) % 64 * 64 + byteN s (pos + 2) % 64 by omega]
          have hc : byteN s pos % 16 * 4096 + byteN s (pos + 1) % 64 * 64 + byteN s (pos + 2) % 64 < 65536 := by omega
          generalize byteN s pos % 16 * 4096 + byteN s (pos + 1) % 64 * 64 + byteN s (pos + 2) % 64 = c at hc
          unfold fin
          by_cases e1 : c < 2048
          · rw [if_pos e1, if_neg (by omega), asPiece_bad]
          · by_cases e2 : c < 55296 ∨ 57343 < c
            · rw [if_neg e1, if_pos (by omega), if_pos (by omega), asPiece_good _ _ (by omega)]
            · rw [if_neg e1, if_neg (by omega), if_neg (by omega), asPiece_bad]
        · rw [if_pos d1, if_neg d2, if_neg (fun h => d2 h.2.2.2), asPiece_bad]
      · rw [if_neg d1, if_neg (fun h => d1 h.2.2.1), asPiece_bad]
    · rw [if_pos (by omega), if_neg (fun h => c2 h.2.1)]
      rfl
  rw [if_neg (fun h => k2 (a3.1 h)), if_neg (show ¬ (byteN s pos / 16 = 14 ∧ _) from fun h => k2 h.1)]
  by_cases k3 : byteN s pos / 8 = 30
  · rw [if_pos (a4.2 k3), u8_and7 _ (by omega) (by omega), w64 (by omega) (by omega)]
    simp only [colanderref01_piece.j0, ez]
    rw [show ((byteN s pos : Int) % 8) = ((byteN s pos % 8 : Nat) : Int) by omega]
    by_cases c3 : pos + 3 < s.size
    · rw [if_neg (by omega), run4 k s pos _ hs c3 (by omega)]
      by_cases d1 : byteN s (pos + 1) / 64 = 2
      · by_cases d2 : byteN s (pos + 2) / 64 = 2
        · by_cases d3 : byteN s (pos + 3) / 64 = 2
          · rw [if_pos d1, if_pos d2, if_pos d3, if_pos ⟨k3, c3, d1, d2, d3⟩]
            rw [show ((byteN s pos % 8 * 64 + byteN s (pos + 1) % 64) * 64 + byteN s (pos + 2) % 64) * 64 + byteN s (pos + 3) % 64 = byteN s pos % 8 * 262144 + byteN s (pos + 1) % 64 * 4096 + byteN s (pos + 2) % 64 * 64 + byteN s (pos + 3) % 64 by omega]
            generalize byteN s pos % 8 * 262144 + byteN s (pos + 1) % 64 * 4096 + byteN s (pos + 2) % 64 * 64 + byteN s (pos + 3) % 64 = c
            unfold fin
            by_cases e1 : c < 65536
            · rw [if_pos e1, if_neg (by omega), asPiece_bad]
            · by_cases e2 : c ≤ 1114111
              · rw [if_neg e1, if_pos (by omega), if_pos (by omega), asPiece_good _ _ (by omega)]
              · rw [if_neg e1, if_neg (by omega), if_neg (by omega), asPiece_bad]
          · rw [if_pos d1, if_pos d2, if_neg d3, if_neg (fun h => d3 h.2.2.2.2), asPiece_bad]
        · rw [if_pos d1, if_neg d2, if_neg (fun h => d2 h.2.2.2.1), asPiece_bad]
      · rw [if_neg d1, if_neg (fun h => d1 h.2.2.1), asPiece_bad]
    · rw [if_pos (by omega), if_neg (fun h => c3 h.2.1)]
      rfl
  rw [if_neg (fun h => k3 (a4.1 h)), if_neg (fun h => k3 h.1)]
  rfl
end Go.Proofs.YtfnipedeldhmgaaDoor
