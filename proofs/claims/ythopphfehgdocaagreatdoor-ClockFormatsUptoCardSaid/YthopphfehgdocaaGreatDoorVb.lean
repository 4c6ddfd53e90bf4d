import Derived.Test.YthopphfehgdocaaGreatDoorVa
set_option linter.unusedSimpArgs false
set_option linter.unusedVariables false
namespace Go.Proofs.YthopphfehgdocaaGreatDoor
open Go Go.RowKit Go.Ev Go.Proofs Go.Shelf
def vjBs (Y M D ho mi : Int) (S : Nat) (W J n iy iw su mo : Int) : List Sp := .cells 125 125 62 13 true (moV Y M D ho mi S W J n iy iw su mo) :: .cells 110 110 62 13 true (moV Y M D ho mi S W J n iy iw su mo) :: wcBs
def vjB (r k : Nat) : Sp := .cells 13 13 68 2 true [.pointer (some ⟨13, 0, none⟩), .slice (some ⟨r, 0, none⟩) k k]
theorem vjBs_good (Y M D ho mi : Int) (S : Nat) (W J n iy iw su mo : Int) : ∀ x ∈ vjBs Y M D ho mi S W J n iy iw su mo, x.good := wj_good wcBs_good trivial trivial
theorem vj0_R (Y M D ho mi : Int) (S : Nat) (W J n iy iw su mo : Int) (f : ByteArray) (i : Int) {c : Int} (g : Bool) (h : wcInF c = true) : DirR 125 127 (ve0 Y M D ho mi S W J n iy iw su mo f i c) (vcT f (wrNx i)) (vjB 126 (Nat.add 0 (wjX Y M D ho mi S W J n iy iw su mo c g).size) :: .row (150 + wjO c) 126 (strL (wjX Y M D ho mi S W J n iy iw su mo c g)) (wjX Y M D ho mi S W J n iy iw su mo c g) :: vjBs Y M D ho mi S W J n iy iw su mo) (wjM c) (wjP c g) (wjB Y M D ho mi S W J n iy iw su mo c g ++ [wjN (wjX Y M D ho mi S W J n iy iw su mo c g)]) := by
 rcases wjIn h with rfl | rfl | rfl | rfl | rfl | rfl | rfl | rfl | rfl | rfl | rfl | rfl | rfl | rfl | rfl | rfl | rfl | rfl | rfl | rfl | rfl | rfl | rfl | rfl | rfl | rfl | rfl | rfl | rfl | rfl | rfl | rfl | rfl
 ·exact ⟨by kernel_rfl, by kernel_rfl⟩
 ·exact ⟨by kernel_rfl, by kernel_rfl⟩
 ·exact ⟨by kernel_rfl, by kernel_rfl⟩
 ·exact ⟨by kernel_rfl, by kernel_rfl⟩
 ·exact ⟨by kernel_rfl, by kernel_rfl⟩
 ·exact ⟨by kernel_rfl, by kernel_rfl⟩
 ·exact ⟨by kernel_rfl, by kernel_rfl⟩
 ·exact ⟨by kernel_rfl, by kernel_rfl⟩
 ·exact ⟨by kernel_rfl, by kernel_rfl⟩
 ·exact ⟨by kernel_rfl, by kernel_rfl⟩
 ·exact ⟨by kernel_rfl, by kernel_rfl⟩
 ·exact ⟨by kernel_rfl, by kernel_rfl⟩
 ·exact ⟨by kernel_rfl, by kernel_rfl⟩
 ·exact ⟨by kernel_rfl, by kernel_rfl⟩
 ·exact ⟨by kernel_rfl, by kernel_rfl⟩
 ·exact ⟨by kernel_rfl, by kernel_rfl⟩
 ·exact ⟨by kernel_rfl, by kernel_rfl⟩
 ·exact ⟨by kernel_rfl, by kernel_rfl⟩
 ·cases g <;> exact ⟨by kernel_rfl, by kernel_rfl⟩
 ·cases g <;> exact ⟨by kernel_rfl, by kernel_rfl⟩
 ·exact ⟨by kernel_rfl, by kernel_rfl⟩
 ·exact ⟨by kernel_rfl, by kernel_rfl⟩
 ·exact ⟨by kernel_rfl, by kernel_rfl⟩
 ·exact ⟨by kernel_rfl, by kernel_rfl⟩
 ·exact ⟨by kernel_rfl, by kernel_rfl⟩
 ·exact ⟨by kernel_rfl, by kernel_rfl⟩
 ·exact ⟨by kernel_rfl, by kernel_rfl⟩
 ·exact ⟨by kernel_rfl, by kernel_rfl⟩
 ·exact ⟨by kernel_rfl, by kernel_rfl⟩
 ·exact ⟨by kernel_rfl, by kernel_rfl⟩
 ·exact ⟨by kernel_rfl, by kernel_rfl⟩
 ·exact ⟨by kernel_rfl, by kernel_rfl⟩
 ·exact ⟨by kernel_rfl, by kernel_rfl⟩
theorem vc0_dir (Y M D ho mi : Int) (S : Nat) (W J n iy iw su mo : Int) (f : ByteArray) (i : Int) (c : Int) (hin : wcInF c = true) (hok : wcOkF Y M D ho mi S W J n iy iw su mo c = true) (hg : newOk (wcTF Y M D ho mi S W J n iy iw su mo c).size 1 1 0 0 (some (strL (wcTF Y M D ho mi S W J n iy iw su mo c))) (strL (wcTF Y M D ho mi S W J n iy iw su mo c)) = true) {Q : AExit → St → Prop} (hq : ∀ b, Q .normal (canon 7 127 (vcT f (wrNx i)) (vcB 126 (Nat.add 0 (wcTF Y M D ho mi S W J n iy iw su mo c).size) :: (126, b, mkCells 126 5 1 false (bytesV (wcTF Y M D ho mi S W J n iy iw su mo c))) :: vcBx Y M D ho mi S W J n iy iw su mo))) : Tr (withB laW lpV) 125 66 wcR (ve0 Y M D ho mi S W J n iy iw su mo f i c) Q := by
 rw [wjTX Y M D ho mi S W J n iy iw su mo hin] at hg hq
 exact (vj0_R Y M D ho mi S W J n iy iw su mo f i (decide (ho < 12)) hin).go rfl (wj_good (vjBs_good Y M D ho mi S W J n iy iw su mo) trivial (strL_eq _)) (wjOk Y M D ho mi S W J n iy iw su mo hin hok hg) (hq _)
theorem vj1_R (Y M D ho mi : Int) (S : Nat) (W J n iy iw su mo : Int) (f : ByteArray) (i : Int) (s : ByteArray) {c : Int} (g : Bool) (h : wcInF c = true) : DirR 125 127 (ve1 Y M D ho mi S W J n iy iw su mo f i c s) (vcT f (wrNx i)) (vjB 126 (Nat.add s.size (wjX Y M D ho mi S W J n iy iw su mo c g).size) :: .app (151 + wjO c) 126 s (strL (wjX Y M D ho mi S W J n iy iw su mo c g)) (wjX Y M D ho mi S W J n iy iw su mo c g) :: vjBs Y M D ho mi S W J n iy iw su mo) (wjM c) (wjP c g) (wjB Y M D ho mi S W J n iy iw su mo c g ++ [wjG s (wjX Y M D ho mi S W J n iy iw su mo c g) (vcHp s) 126]) := by
 rcases wjIn h with rfl | rfl | rfl | rfl | rfl | rfl | rfl | rfl | rfl | rfl | rfl | rfl | rfl | rfl | rfl | rfl | rfl | rfl | rfl | rfl | rfl | rfl | rfl | rfl | rfl | rfl | rfl | rfl | rfl | rfl | rfl | rfl | rfl
 ·exact ⟨by kernel_rfl, by kernel_rfl⟩
 ·exact ⟨by kernel_rfl, by kernel_rfl⟩
 ·exact ⟨by kernel_rfl, by kernel_rfl⟩
 ·exact ⟨by kernel_rfl, by kernel_rfl⟩
 ·exact ⟨by kernel_rfl, by kernel_rfl⟩
 ·exact ⟨by kernel_rfl, by kernel_rfl⟩
 ·exact ⟨by kernel_rfl, by kernel_rfl⟩
 ·exact ⟨by kernel_rfl, by kernel_rfl⟩
 ·exact ⟨by kernel_rfl, by kernel_rfl⟩
 ·exact ⟨by kernel_rfl, by kernel_rfl⟩
 ·exact ⟨by kernel_rfl, by kernel_rfl⟩
 ·exact ⟨by kernel_rfl, by kernel_rfl⟩
 ·exact ⟨by kernel_rfl, by kernel_rfl⟩
 ·exact ⟨by kernel_rfl, by kernel_rfl⟩
 ·exact ⟨by kernel_rfl, by kernel_rfl⟩
 ·exact ⟨by kernel_rfl, by kernel_rfl⟩
 ·exact ⟨by kernel_rfl, by kernel_rfl⟩
 ·exact ⟨by kernel_rfl, by kernel_rfl⟩
 ·cases g <;> exact ⟨by kernel_rfl, by kernel_rfl⟩
 ·cases g <;> exact ⟨by kernel_rfl, by kernel_rfl⟩
 ·exact ⟨by kernel_rfl, by kernel_rfl⟩
 ·exact ⟨by kernel_rfl, by kernel_rfl⟩
 ·exact ⟨by kernel_rfl, by kernel_rfl⟩
 ·exact ⟨by kernel_rfl, by kernel_rfl⟩
 ·exact ⟨by kernel_rfl, by kernel_rfl⟩
 ·exact ⟨by kernel_rfl, by kernel_rfl⟩
 ·exact ⟨by kernel_rfl, by kernel_rfl⟩
 ·exact ⟨by kernel_rfl, by kernel_rfl⟩
 ·exact ⟨by kernel_rfl, by kernel_rfl⟩
 ·exact ⟨by kernel_rfl, by kernel_rfl⟩
 ·exact ⟨by kernel_rfl, by kernel_rfl⟩
 ·exact ⟨by kernel_rfl, by kernel_rfl⟩
 ·exact ⟨by kernel_rfl, by kernel_rfl⟩
theorem vc1_dir (Y M D ho mi : Int) (S : Nat) (W J n iy iw su mo : Int) (f : ByteArray) (i : Int) (c : Int) (s : ByteArray) (hin : wcInF c = true) (hok : wcOkF Y M D ho mi S W J n iy iw su mo c = true) (hg : growOk (wcTF Y M D ho mi S W J n iy iw su mo c).size 1 1 s.size s.size 0 (bytesV s).length (some (strL (wcTF Y M D ho mi S W J n iy iw su mo c))) (strL (wcTF Y M D ho mi S W J n iy iw su mo c)) (loadOld (vcHp s) 126 0 (Nat.mul s.size 1)) = true) {Q : AExit → St → Prop} (hq : ∀ b, Q .normal (canon 7 127 (vcT f (wrNx i)) (vcB 126 (Nat.add s.size (wcTF Y M D ho mi S W J n iy iw su mo c).size) :: (126, b, mkCells 126 5 1 false (bytesV (s ++ (wcTF Y M D ho mi S W J n iy iw su mo c)))) :: vcBx Y M D ho mi S W J n iy iw su mo))) : Tr (withB laW lpV) 125 66 wcR (ve1 Y M D ho mi S W J n iy iw su mo f i c s) Q := by
 rw [wjTX Y M D ho mi S W J n iy iw su mo hin] at hg hq
 exact (vj1_R Y M D ho mi S W J n iy iw su mo f i s (decide (ho < 12)) hin).go rfl (wj_good (vjBs_good Y M D ho mi S W J n iy iw su mo) trivial (strL_eq _)) (wjOk Y M D ho mi S W J n iy iw su mo hin hok hg) (hq _)
theorem vj2_R (Y M D ho mi : Int) (S : Nat) (W J n iy iw su mo : Int) (f : ByteArray) (i : Int) (s : ByteArray) {c : Int} (g : Bool) (h : wcInF c = true) : DirR 125 127 (ve2 Y M D ho mi S W J n iy iw su mo f i c s) (vcT f (wrNx i)) (vjB 126 (Nat.add s.size (wjX Y M D ho mi S W J n iy iw su mo c g).size) :: .app (150 + wjO c) 126 s (strL (wjX Y M D ho mi S W J n iy iw su mo c g)) (wjX Y M D ho mi S W J n iy iw su mo c g) :: vjBs Y M D ho mi S W J n iy iw su mo) (wjM c) (wjP c g) (wjB Y M D ho mi S W J n iy iw su mo c g ++ [wjG s (wjX Y M D ho mi S W J n iy iw su mo c g) (wcHp s) 111]) := by
 rcases wjIn h with rfl | rfl | rfl | rfl | rfl | rfl | rfl | rfl | rfl | rfl | rfl | rfl | rfl | rfl | rfl | rfl | rfl | rfl | rfl | rfl | rfl | rfl | rfl | rfl | rfl | rfl | rfl | rfl | rfl | rfl | rfl | rfl | rfl
 ·exact ⟨by kernel_rfl, by kernel_rfl⟩
 ·exact ⟨by kernel_rfl, by kernel_rfl⟩
 ·exact ⟨by kernel_rfl, by kernel_rfl⟩
 ·exact ⟨by kernel_rfl, by kernel_rfl⟩
 ·exact ⟨by kernel_rfl, by kernel_rfl⟩
 ·exact ⟨by kernel_rfl, by kernel_rfl⟩
 ·exact ⟨by kernel_rfl, by kernel_rfl⟩
 ·exact ⟨by kernel_rfl, by kernel_rfl⟩
 ·exact ⟨by kernel_rfl, by kernel_rfl⟩
 ·exact ⟨by kernel_rfl, by kernel_rfl⟩
 ·exact ⟨by kernel_rfl, by kernel_rfl⟩
 ·exact ⟨by kernel_rfl, by kernel_rfl⟩
 ·exact ⟨by kernel_rfl, by kernel_rfl⟩
 ·exact ⟨by kernel_rfl, by kernel_rfl⟩
 ·exact ⟨by kernel_rfl, by kernel_rfl⟩
 ·exact ⟨by kernel_rfl, by kernel_rfl⟩
 ·exact ⟨by kernel_rfl, by kernel_rfl⟩
 ·exact ⟨by kernel_rfl, by kernel_rfl⟩
 ·cases g <;> exact ⟨by kernel_rfl, by kernel_rfl⟩
 ·cases g <;> exact ⟨by kernel_rfl, by kernel_rfl⟩
 ·exact ⟨by kernel_rfl, by kernel_rfl⟩
 ·exact ⟨by kernel_rfl, by kernel_rfl⟩
 ·exact ⟨by kernel_rfl, by kernel_rfl⟩
 ·exact ⟨by kernel_rfl, by kernel_rfl⟩
 ·exact ⟨by kernel_rfl, by kernel_rfl⟩
 ·exact ⟨by kernel_rfl, by kernel_rfl⟩
 ·exact ⟨by kernel_rfl, by kernel_rfl⟩
 ·exact ⟨by kernel_rfl, by kernel_rfl⟩
 ·exact ⟨by kernel_rfl, by kernel_rfl⟩
 ·exact ⟨by kernel_rfl, by kernel_rfl⟩
 ·exact ⟨by kernel_rfl, by kernel_rfl⟩
 ·exact ⟨by kernel_rfl, by kernel_rfl⟩
 ·exact ⟨by kernel_rfl, by kernel_rfl⟩
theorem vc2_dir (Y M D ho mi : Int) (S : Nat) (W J n iy iw su mo : Int) (f : ByteArray) (i : Int) (c : Int) (s : ByteArray) (hin : wcInF c = true) (hok : wcOkF Y M D ho mi S W J n iy iw su mo c = true) (hg : growOk (wcTF Y M D ho mi S W J n iy iw su mo c).size 1 1 s.size s.size 0 (bytesV s).length (some (strL (wcTF Y M D ho mi S W J n iy iw su mo c))) (strL (wcTF Y M D ho mi S W J n iy iw su mo c)) (loadOld (wcHp s) 111 0 (Nat.mul s.size 1)) = true) {Q : AExit → St → Prop} (hq : ∀ b, Q .normal (canon 7 127 (vcT f (wrNx i)) (vcB 126 (Nat.add s.size (wcTF Y M D ho mi S W J n iy iw su mo c).size) :: (126, b, mkCells 126 5 1 false (bytesV (s ++ (wcTF Y M D ho mi S W J n iy iw su mo c)))) :: vcBx Y M D ho mi S W J n iy iw su mo))) : Tr (withB laW lpV) 125 66 wcR (ve2 Y M D ho mi S W J n iy iw su mo f i c s) Q := by
 rw [wjTX Y M D ho mi S W J n iy iw su mo hin] at hg hq
 exact (vj2_R Y M D ho mi S W J n iy iw su mo f i s (decide (ho < 12)) hin).go rfl (wj_good (vjBs_good Y M D ho mi S W J n iy iw su mo) trivial (strL_eq _)) (wjOk Y M D ho mi S W J n iy iw su mo hin hok hg) (hq _)
end Go.Proofs.YthopphfehgdocaaGreatDoor
