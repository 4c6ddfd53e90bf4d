import Derived.Test.YthopphfehgdocaaGreatDoorWa
import Derived.Test.YthopphfehgdocaaGreatDoorWr
set_option linter.unusedSimpArgs false
set_option linter.unusedVariables false
namespace Go.Proofs.YthopphfehgdocaaGreatDoor
open Go Go.RowKit Go.Ev Go.Proofs Go.Shelf
noncomputable def kdB : TypeDesc := match (withB laW lpV).und 5 with
 | some d => d
 | none => default
theorem wc0_plain (Y M D ho mi : Int) (S : Nat) (W J n iy iw su mo : Int) (f : ByteArray) (i : Int) (h1 : ((rLt f i) == true) = true) (h2 : (rAt f i) = true) (h3 : ((r37 f i) == true) = true) (h4 : rN1 f i = true) {Q : AExit → St → Prop} (hq : Q .normal (canon 7 112 (wT f (wrNx i)) (wB (Nat.add 0 1) :: (111, 136, mkCells 111 5 1 false (bytesV (at1 f i))) :: wBx Y M D ho mi S W J n iy iw su mo))) : Tr (withB laW lpV) 110 66 (wcB) (wc0 Y M D ho mi S W J n iy iw su mo f i) Q :=
 rdW (m := (bitsN 11 1791)) (p := (bitsN 9 255)) (k := 120) (n := 30) (by kernel_rfl) (by kernel_rfl) (by kernel_rfl) (by kernel_rfl) (fun r hr => jC (vO (by kernel_rfl) hr) (jC (row_new (new := [Value.int .u8 (((f[i.toNat]?).getD 0).toNat : Int)]) (by kernel_rfl) hr (at1_bytes f i)) (jC (vO (by kernel_rfl) hr) (bxs (by kernel_rfl) hr)))) (by kernel_rfl) (aC h1 (aC h2 (C6 h3 (aC h2 (aC h4 aN))))) hq
theorem wc1_plain (Y M D ho mi : Int) (S : Nat) (W J n iy iw su mo : Int) (f : ByteArray) (i : Int) (s : ByteArray) (h1 : ((rLt f i) == true) = true) (h2 : (rAt f i) = true) (h3 : ((r37 f i) == true) = true) (h4 : rG1 f i s (wcHp s) 111 = true) {Q : AExit → St → Prop} (hq : Q .normal (canon 7 112 (wT f (wrNx i)) (wB (Nat.add s.size 1) :: (111, 137, mkCells 111 5 1 false (bytesV (s ++ (at1 f i)))) :: wBx Y M D ho mi S W J n iy iw su mo))) : Tr (withB laW lpV) 110 66 (wcB) (wc1 Y M D ho mi S W J n iy iw su mo f i s) Q :=
 rdW (m := (bitsN 11 1791)) (p := (bitsN 9 255)) (k := 120) (n := 30) (by kernel_rfl) (by kernel_rfl) (by kernel_rfl) (by kernel_rfl) (fun r hr => jC (vO (by kernel_rfl) hr) (jC (row_app (s := s) (new := [Value.int .u8 (((f[i.toNat]?).getD 0).toNat : Int)]) (by kernel_rfl) hr (at1_bytes f i)) (jC (vO (by kernel_rfl) hr) (bxs (by kernel_rfl) hr)))) (by kernel_rfl) (aC h1 (aC h2 (C6 h3 (aC h2 (aC h4 aN))))) hq
theorem wc0_last (Y M D ho mi : Int) (S : Nat) (W J n iy iw su mo : Int) (f : ByteArray) (i : Int) (h1 : ((rLt f i) == true) = true) (h2 : (rAt f i) = true) (h3 : ((r37 f i) == false) = true) (h4 : ((rEnd f i) == true) = true) (h5 : rN1 f i = true) {Q : AExit → St → Prop} (hq : Q .normal (canon 7 112 (wT f (wrNx i)) (wB (Nat.add 0 1) :: (111, 141, mkCells 111 5 1 false (bytesV (at1 f i))) :: wBx Y M D ho mi S W J n iy iw su mo))) : Tr (withB laW lpV) 110 66 (wcB) (wc0 Y M D ho mi S W J n iy iw su mo f i) Q :=
 rdW (m := (bitsN 11 2047)) (p := (bitsN 9 129)) (k := 120) (n := 30) (by kernel_rfl) (by kernel_rfl) (by kernel_rfl) (by kernel_rfl) (fun r hr => jC (vO (by kernel_rfl) hr) (jC (row_new (new := [Value.int .u8 (((f[i.toNat]?).getD 0).toNat : Int)]) (by kernel_rfl) hr (at1_bytes f i)) (jC (vO (by kernel_rfl) hr) (bxs (by kernel_rfl) hr)))) (by kernel_rfl) (aC h1 (aC h2 (C6 h3 (aC h4 (aC h2 (aC h5 aN)))))) hq
theorem wc1_last (Y M D ho mi : Int) (S : Nat) (W J n iy iw su mo : Int) (f : ByteArray) (i : Int) (s : ByteArray) (h1 : ((rLt f i) == true) = true) (h2 : (rAt f i) = true) (h3 : ((r37 f i) == false) = true) (h4 : ((rEnd f i) == true) = true) (h5 : rG1 f i s (wcHp s) 111 = true) {Q : AExit → St → Prop} (hq : Q .normal (canon 7 112 (wT f (wrNx i)) (wB (Nat.add s.size 1) :: (111, 142, mkCells 111 5 1 false (bytesV (s ++ (at1 f i)))) :: wBx Y M D ho mi S W J n iy iw su mo))) : Tr (withB laW lpV) 110 66 (wcB) (wc1 Y M D ho mi S W J n iy iw su mo f i s) Q :=
 rdW (m := (bitsN 11 2047)) (p := (bitsN 9 129)) (k := 120) (n := 30) (by kernel_rfl) (by kernel_rfl) (by kernel_rfl) (by kernel_rfl) (fun r hr => jC (vO (by kernel_rfl) hr) (jC (row_app (s := s) (new := [Value.int .u8 (((f[i.toNat]?).getD 0).toNat : Int)]) (by kernel_rfl) hr (at1_bytes f i)) (jC (vO (by kernel_rfl) hr) (bxs (by kernel_rfl) hr)))) (by kernel_rfl) (aC h1 (aC h2 (C6 h3 (aC h4 (aC h2 (aC h5 aN)))))) hq
theorem wc0_out (Y M D ho mi : Int) (S : Nat) (W J n iy iw su mo : Int) (f : ByteArray) (i : Int) (h1 : ((rLt f i) == false) = true) {Q : AExit → St → Prop} (hq : Q (.exit 0) (canon 7 111 (wT f i) (wN :: wBx Y M D ho mi S W J n iy iw su mo))) : Tr (withB laW lpV) 110 66 (wcB) (wc0 Y M D ho mi S W J n iy iw su mo f i) Q :=
 rdW (m := [true]) (p := [false]) (k := 120) (n := 30) (by kernel_rfl) (by kernel_rfl) (by kernel_rfl) (by kernel_rfl) (fun r hr => jC (vO (by kernel_rfl) hr) (jC (vO (by kernel_rfl) hr) (bxs (by kernel_rfl) hr))) (by kernel_rfl) (aC h1 aN) hq
theorem wc0_head (Y M D ho mi : Int) (S : Nat) (W J n iy iw su mo : Int) (f : ByteArray) (i : Int) (h1 : ((rLt f i) == true) = true) {Q : AExit → St → Prop} {c' : Code} {lc' : List Code} (hq : TrL (withB laW lpV) 110 66 (c' :: lc') (canon 7 111 (wT f i) (wN :: wBx Y M D ho mi S W J n iy iw su mo)) Q) : TrL (withB laW lpV) 110 66 ((Go.Ev.spine wcB).take 2 ++ c' :: lc') (wc0 Y M D ho mi S W J n iy iw su mo f i) Q :=
 rlW (m := [true]) (p := [true]) (k := 120) (n := 30) (by kernel_rfl) (by kernel_rfl) (by kernel_rfl) (by kernel_rfl) (fun r hr => jC (vO (by kernel_rfl) hr) (jC (vO (by kernel_rfl) hr) (bxs (by kernel_rfl) hr))) (by kernel_rfl) (aC h1 aN) hq
theorem wc0_byte (Y M D ho mi : Int) (S : Nat) (W J n iy iw su mo : Int) (f : ByteArray) (i : Int) (h1 : (rAt f i) = true) (h2 : ((r37 f i) == false) = true) (h3 : ((rEnd f i) == false) = true) (h4 : (rAt f (wrNx i)) = true) {Q : AExit → St → Prop} {c' : Code} {lc' : List Code} (hq : TrL (withB laW lpV) 110 66 (c' :: lc') (canon 7 111 (wT9 f i (atI f (wrNx i)).toNat) (wN :: wBx Y M D ho mi S W J n iy iw su mo)) Q) : TrL (withB laW lpV) 110 66 (wcIn.take 3 ++ c' :: lc') (wc0 Y M D ho mi S W J n iy iw su mo f i) Q :=
 rlW (m := (bitsN 9 511)) (p := (bitsN 7 0)) (k := 120) (n := 30) (by kernel_rfl) (by kernel_rfl) (by kernel_rfl) (by kernel_rfl) (fun r hr => jC (vO (by kernel_rfl) hr) (jC (vO (by kernel_rfl) hr) (bxs (by kernel_rfl) hr))) (by kernel_rfl) (aC h1 (C6 h2 (aC h3 (aC h4 aN)))) hq
theorem wc0_next (Y M D ho mi : Int) (S : Nat) (W J n iy iw su mo : Int) (f : ByteArray) (i : Int)  {Q : AExit → St → Prop} (hq : Q .normal (canon 7 111 (wT f (wrNx i)) (wN :: wBx Y M D ho mi S W J n iy iw su mo))) : Tr (withB laW lpV) 110 66 ((unspine ((Go.Ev.spine wcB).drop 3))) (wc0 Y M D ho mi S W J n iy iw su mo f i) Q :=
 rdW (m := []) (p := []) (k := 120) (n := 30) (by kernel_rfl) (by kernel_rfl) (by kernel_rfl) (by kernel_rfl) (fun r hr => jC (vO (by kernel_rfl) hr) (jC (vO (by kernel_rfl) hr) (bxs (by kernel_rfl) hr))) (by kernel_rfl) aN hq
theorem wc1_out (Y M D ho mi : Int) (S : Nat) (W J n iy iw su mo : Int) (f : ByteArray) (i : Int) (s : ByteArray) (h1 : ((rLt f i) == false) = true) {Q : AExit → St → Prop} (hq : Q (.exit 0) (canon 7 112 (wT f i) (wB s.size :: (111, 111, mkCells 111 5 1 false (bytesV s)) :: wBx Y M D ho mi S W J n iy iw su mo))) : Tr (withB laW lpV) 110 66 (wcB) (wc1 Y M D ho mi S W J n iy iw su mo f i s) Q :=
 rdW (m := [true]) (p := [false]) (k := 120) (n := 30) (by kernel_rfl) (by kernel_rfl) (by kernel_rfl) (by kernel_rfl) (fun r hr => jC (vO (by kernel_rfl) hr) (jC (row_same (by kernel_rfl) hr) (jC (vO (by kernel_rfl) hr) (bxs (by kernel_rfl) hr)))) (by kernel_rfl) (aC h1 aN) hq
theorem wc1_head (Y M D ho mi : Int) (S : Nat) (W J n iy iw su mo : Int) (f : ByteArray) (i : Int) (s : ByteArray) (h1 : ((rLt f i) == true) = true) {Q : AExit → St → Prop} {c' : Code} {lc' : List Code} (hq : TrL (withB laW lpV) 110 66 (c' :: lc') (canon 7 112 (wT f i) (wB s.size :: (111, 111, mkCells 111 5 1 false (bytesV s)) :: wBx Y M D ho mi S W J n iy iw su mo)) Q) : TrL (withB laW lpV) 110 66 ((Go.Ev.spine wcB).take 2 ++ c' :: lc') (wc1 Y M D ho mi S W J n iy iw su mo f i s) Q :=
 rlW (m := [true]) (p := [true]) (k := 120) (n := 30) (by kernel_rfl) (by kernel_rfl) (by kernel_rfl) (by kernel_rfl) (fun r hr => jC (vO (by kernel_rfl) hr) (jC (row_same (by kernel_rfl) hr) (jC (vO (by kernel_rfl) hr) (bxs (by kernel_rfl) hr)))) (by kernel_rfl) (aC h1 aN) hq
theorem wc1_byte (Y M D ho mi : Int) (S : Nat) (W J n iy iw su mo : Int) (f : ByteArray) (i : Int) (s : ByteArray) (h1 : (rAt f i) = true) (h2 : ((r37 f i) == false) = true) (h3 : ((rEnd f i) == false) = true) (h4 : (rAt f (wrNx i)) = true) {Q : AExit → St → Prop} {c' : Code} {lc' : List Code} (hq : TrL (withB laW lpV) 110 66 (c' :: lc') (canon 7 112 (wT9 f i (atI f (wrNx i)).toNat) (wB s.size :: (111, 111, mkCells 111 5 1 false (bytesV s)) :: wBx Y M D ho mi S W J n iy iw su mo)) Q) : TrL (withB laW lpV) 110 66 (wcIn.take 3 ++ c' :: lc') (wc1 Y M D ho mi S W J n iy iw su mo f i s) Q :=
 rlW (m := (bitsN 9 511)) (p := (bitsN 7 0)) (k := 120) (n := 30) (by kernel_rfl) (by kernel_rfl) (by kernel_rfl) (by kernel_rfl) (fun r hr => jC (vO (by kernel_rfl) hr) (jC (row_same (by kernel_rfl) hr) (jC (vO (by kernel_rfl) hr) (bxs (by kernel_rfl) hr)))) (by kernel_rfl) (aC h1 (C6 h2 (aC h3 (aC h4 aN)))) hq
theorem wc1_next (Y M D ho mi : Int) (S : Nat) (W J n iy iw su mo : Int) (f : ByteArray) (i : Int) (s : ByteArray)  {Q : AExit → St → Prop} (hq : Q .normal (canon 7 112 (wT f (wrNx i)) (wB s.size :: (111, 111, mkCells 111 5 1 false (bytesV s)) :: wBx Y M D ho mi S W J n iy iw su mo))) : Tr (withB laW lpV) 110 66 ((unspine ((Go.Ev.spine wcB).drop 3))) (wc1 Y M D ho mi S W J n iy iw su mo f i s) Q :=
 rdW (m := []) (p := []) (k := 120) (n := 30) (by kernel_rfl) (by kernel_rfl) (by kernel_rfl) (by kernel_rfl) (fun r hr => jC (vO (by kernel_rfl) hr) (jC (row_same (by kernel_rfl) hr) (jC (vO (by kernel_rfl) hr) (bxs (by kernel_rfl) hr)))) (by kernel_rfl) aN hq
theorem wc0_lone (Y M D ho mi : Int) (S : Nat) (W J n iy iw su mo : Int) (f : ByteArray) (i : Int) (c : Int) (h1 : missAll kdB (.int .u8 c) wmEs = true) (h2 : ((!((ByteArray.toList (longerF c)) == (ByteArray.toList (ByteArray.mk #[])))) == false) = true) {Q : AExit → St → Prop} (hq : Q .normal (canon 7 112 (wT f i) (wB (Nat.add 0 1) :: (111, 137, mkCells 111 5 1 false (bytesV (⟨#[37]⟩ : ByteArray))) :: wBx Y M D ho mi S W J n iy iw su mo))) : Tr (withB laW lpV) 110 66 (wcR) (wd0 Y M D ho mi S W J n iy iw su mo f i c) Q :=
 rdW (m := [true, false, true]) (p := [false, false, false, false]) (k := 120) (n := 30) (by kernel_rfl) (by kernel_rfl) (by kernel_rfl) (by kernel_rfl) (fun r hr => jC (vO (by kernel_rfl) hr) (jC (row_new (new := [Value.int .u8 37]) (by kernel_rfl) hr rfl) (jC (vO (by kernel_rfl) hr) (bxs (by kernel_rfl) hr)))) (by kernel_rfl) (aC h1 (aC h2 aN)) hq
theorem wc1_lone (Y M D ho mi : Int) (S : Nat) (W J n iy iw su mo : Int) (f : ByteArray) (i : Int) (c : Int) (s : ByteArray) (h1 : missAll kdB (.int .u8 c) wmEs = true) (h2 : ((!((ByteArray.toList (longerF c)) == (ByteArray.toList (ByteArray.mk #[])))) == false) = true) (h3 : growOk 1 1 1 s.size s.size 0 (bytesV s).length (some [Value.int .u8 37]) [Value.int .u8 37] (loadOld (wcHp s) 111 0 (Nat.mul s.size 1)) = true) {Q : AExit → St → Prop} (hq : Q .normal (canon 7 112 (wT f i) (wB (Nat.add s.size 1) :: (111, 138, mkCells 111 5 1 false (bytesV (s ++ (⟨#[37]⟩ : ByteArray)))) :: wBx Y M D ho mi S W J n iy iw su mo))) : Tr (withB laW lpV) 110 66 (wcR) (wd1 Y M D ho mi S W J n iy iw su mo f i c s) Q :=
 rdW (m := [true, false, true, true]) (p := [false, false, false, false]) (k := 120) (n := 30) (by kernel_rfl) (by kernel_rfl) (by kernel_rfl) (by kernel_rfl) (fun r hr => jC (vO (by kernel_rfl) hr) (jC (row_app (s := s) (new := [Value.int .u8 37]) (by kernel_rfl) hr rfl) (jC (vO (by kernel_rfl) hr) (bxs (by kernel_rfl) hr)))) (by kernel_rfl) (aC h1 (aC h2 (aC h3 aN))) hq
section
variable (Y M D ho mi : Int) (S : Nat) (W J n iy iw su mo : Int)
def wt_97F (Y M D ho mi : Int) (S : Nat) (W J n iy iw su mo : Int) : ByteArray := (da0F Y M D ho mi S W J n iy iw su mo)
def wt_65F (Y M D ho mi : Int) (S : Nat) (W J n iy iw su mo : Int) : ByteArray := (dA0F Y M D ho mi S W J n iy iw su mo)
def wt_98F (Y M D ho mi : Int) (S : Nat) (W J n iy iw su mo : Int) : ByteArray := (dmon0F Y M D ho mi S W J n iy iw su mo)
def wt_104F (Y M D ho mi : Int) (S : Nat) (W J n iy iw su mo : Int) : ByteArray := (dmon0F Y M D ho mi S W J n iy iw su mo)
def wt_66F (Y M D ho mi : Int) (S : Nat) (W J n iy iw su mo : Int) : ByteArray := (dB0F Y M D ho mi S W J n iy iw su mo)
def wt_89F (Y M D ho mi : Int) (S : Nat) (W J n iy iw su mo : Int) : ByteArray := (dY0F Y M D ho mi S W J n iy iw su mo)
def wt_67F (Y M D ho mi : Int) (S : Nat) (W J n iy iw su mo : Int) : ByteArray := (ctwo0F (dcen0F Y))
def wt_121F (Y M D ho mi : Int) (S : Nat) (W J n iy iw su mo : Int) : ByteArray := (ctwo0F (dcen1F Y))
def wt_109F (Y M D ho mi : Int) (S : Nat) (W J n iy iw su mo : Int) : ByteArray := (dm0F Y M D ho mi S W J n iy iw su mo)
def wt_100F (Y M D ho mi : Int) (S : Nat) (W J n iy iw su mo : Int) : ByteArray := (dd0F Y M D ho mi S W J n iy iw su mo)
def wt_101F (Y M D ho mi : Int) (S : Nat) (W J n iy iw su mo : Int) : ByteArray := (de0F Y M D ho mi S W J n iy iw su mo)
def wt_72F (Y M D ho mi : Int) (S : Nat) (W J n iy iw su mo : Int) : ByteArray := (dH0F Y M D ho mi S W J n iy iw su mo)
def wt_107F (Y M D ho mi : Int) (S : Nat) (W J n iy iw su mo : Int) : ByteArray := (dk0F Y M D ho mi S W J n iy iw su mo)
def wt_73F (Y M D ho mi : Int) (S : Nat) (W J n iy iw su mo : Int) : ByteArray := (dI0F Y M D ho mi S W J n iy iw su mo)
def wt_108F (Y M D ho mi : Int) (S : Nat) (W J n iy iw su mo : Int) : ByteArray := (dl0F Y M D ho mi S W J n iy iw su mo)
def wt_77F (Y M D ho mi : Int) (S : Nat) (W J n iy iw su mo : Int) : ByteArray := (dM0F Y M D ho mi S W J n iy iw su mo)
def wt_83F (Y M D ho mi : Int) (S : Nat) (W J n iy iw su mo : Int) : ByteArray := (dS0F Y M D ho mi S W J n iy iw su mo)
def wt_106F (Y M D ho mi : Int) (S : Nat) (W J n iy iw su mo : Int) : ByteArray := (dj0F Y M D ho mi S W J n iy iw su mo)
def wt_112aF (Y M D ho mi : Int) (S : Nat) (W J n iy iw su mo : Int) : ByteArray := (nthS [(Value.string (ByteArray.mk #[65, 77]))] 0)
def wt_112bF (Y M D ho mi : Int) (S : Nat) (W J n iy iw su mo : Int) : ByteArray := (nthS [(Value.string (ByteArray.mk #[80, 77]))] 0)
def wt_80aF (Y M D ho mi : Int) (S : Nat) (W J n iy iw su mo : Int) : ByteArray := (nthS [(Value.string (ByteArray.mk #[97, 109]))] 0)
def wt_80bF (Y M D ho mi : Int) (S : Nat) (W J n iy iw su mo : Int) : ByteArray := (nthS [(Value.string (ByteArray.mk #[112, 109]))] 0)
def wt_117F (Y M D ho mi : Int) (S : Nat) (W J n iy iw su mo : Int) : ByteArray := (du0F Y M D ho mi S W J n iy iw su mo)
def wt_119F (Y M D ho mi : Int) (S : Nat) (W J n iy iw su mo : Int) : ByteArray := (dw0F Y M D ho mi S W J n iy iw su mo)
def wt_85F (Y M D ho mi : Int) (S : Nat) (W J n iy iw su mo : Int) : ByteArray := (dU0F Y M D ho mi S W J n iy iw su mo)
def wt_87F (Y M D ho mi : Int) (S : Nat) (W J n iy iw su mo : Int) : ByteArray := (dW0F Y M D ho mi S W J n iy iw su mo)
def wt_86F (Y M D ho mi : Int) (S : Nat) (W J n iy iw su mo : Int) : ByteArray := (dV0F Y M D ho mi S W J n iy iw su mo)
def wt_71F (Y M D ho mi : Int) (S : Nat) (W J n iy iw su mo : Int) : ByteArray := (dG0F Y M D ho mi S W J n iy iw su mo)
def wt_103F (Y M D ho mi : Int) (S : Nat) (W J n iy iw su mo : Int) : ByteArray := (ctwo0F (dcen1F iy))
def wt_115F (Y M D ho mi : Int) (S : Nat) (W J n iy iw su mo : Int) : ByteArray := (ds0F Y M D ho mi S W J n iy iw su mo)
def wt_110F (Y M D ho mi : Int) (S : Nat) (W J n iy iw su mo : Int) : ByteArray := (nthS [(Value.string (ByteArray.mk #[10]))] 0)
def wt_116F (Y M D ho mi : Int) (S : Nat) (W J n iy iw su mo : Int) : ByteArray := (nthS [(Value.string (ByteArray.mk #[9]))] 0)
def wt_37F (Y M D ho mi : Int) (S : Nat) (W J n iy iw su mo : Int) : ByteArray := (nthS [(Value.string (ByteArray.mk #[37]))] 0)
def wt_122F (Y M D ho mi : Int) (S : Nat) (W J n iy iw su mo : Int) : ByteArray := (nthS [(Value.string (ByteArray.mk #[43, 48, 48, 48, 48]))] 0)
def wt_90F (Y M D ho mi : Int) (S : Nat) (W J n iy iw su mo : Int) : ByteArray := (nthS [(Value.string (ByteArray.mk #[85, 84, 67]))] 0)
end
def wcTF (Y M D ho mi : Int) (S : Nat) (W J n iy iw su mo : Int) (c : Int) : ByteArray := if c = 97 then wt_97F Y M D ho mi S W J n iy iw su mo else if c = 65 then wt_65F Y M D ho mi S W J n iy iw su mo else if c = 98 then wt_98F Y M D ho mi S W J n iy iw su mo else if c = 104 then wt_104F Y M D ho mi S W J n iy iw su mo else if c = 66 then wt_66F Y M D ho mi S W J n iy iw su mo else if c = 89 then wt_89F Y M D ho mi S W J n iy iw su mo else if c = 67 then wt_67F Y M D ho mi S W J n iy iw su mo else if c = 121 then wt_121F Y M D ho mi S W J n iy iw su mo else if c = 109 then wt_109F Y M D ho mi S W J n iy iw su mo else if c = 100 then wt_100F Y M D ho mi S W J n iy iw su mo else if c = 101 then wt_101F Y M D ho mi S W J n iy iw su mo else if c = 72 then wt_72F Y M D ho mi S W J n iy iw su mo else if c = 107 then wt_107F Y M D ho mi S W J n iy iw su mo else if c = 73 then wt_73F Y M D ho mi S W J n iy iw su mo else if c = 108 then wt_108F Y M D ho mi S W J n iy iw su mo else if c = 77 then wt_77F Y M D ho mi S W J n iy iw su mo else if c = 83 then wt_83F Y M D ho mi S W J n iy iw su mo else if c = 106 then wt_106F Y M D ho mi S W J n iy iw su mo else if c = 112 then (bif decide (ho < 12) then wt_112aF Y M D ho mi S W J n iy iw su mo else wt_112bF Y M D ho mi S W J n iy iw su mo) else if c = 80 then (bif decide (ho < 12) then wt_80aF Y M D ho mi S W J n iy iw su mo else wt_80bF Y M D ho mi S W J n iy iw su mo) else if c = 117 then wt_117F Y M D ho mi S W J n iy iw su mo else if c = 119 then wt_119F Y M D ho mi S W J n iy iw su mo else if c = 85 then wt_85F Y M D ho mi S W J n iy iw su mo else if c = 87 then wt_87F Y M D ho mi S W J n iy iw su mo else if c = 86 then wt_86F Y M D ho mi S W J n iy iw su mo else if c = 71 then wt_71F Y M D ho mi S W J n iy iw su mo else if c = 103 then wt_103F Y M D ho mi S W J n iy iw su mo else if c = 115 then wt_115F Y M D ho mi S W J n iy iw su mo else if c = 110 then wt_110F Y M D ho mi S W J n iy iw su mo else if c = 116 then wt_116F Y M D ho mi S W J n iy iw su mo else if c = 37 then wt_37F Y M D ho mi S W J n iy iw su mo else if c = 122 then wt_122F Y M D ho mi S W J n iy iw su mo else if c = 90 then wt_90F Y M D ho mi S W J n iy iw su mo else ByteArray.empty
def wcInF (c : Int) : Bool := if c = 97 then true else if c = 65 then true else if c = 98 then true else if c = 104 then true else if c = 66 then true else if c = 89 then true else if c = 67 then true else if c = 121 then true else if c = 109 then true else if c = 100 then true else if c = 101 then true else if c = 72 then true else if c = 107 then true else if c = 73 then true else if c = 108 then true else if c = 77 then true else if c = 83 then true else if c = 106 then true else if c = 112 then true else if c = 80 then true else if c = 117 then true else if c = 119 then true else if c = 85 then true else if c = 87 then true else if c = 86 then true else if c = 71 then true else if c = 103 then true else if c = 115 then true else if c = 110 then true else if c = 116 then true else if c = 37 then true else if c = 122 then true else if c = 90 then true else false
def wcOkF (Y M D ho mi : Int) (S : Nat) (W J n iy iw su mo : Int) (c : Int) : Bool := if c = 97 then (((daOkF Y M D ho mi S W J n iy iw su mo) == true)) else if c = 65 then (((dAOkF Y M D ho mi S W J n iy iw su mo) == true)) else if c = 98 then (((dmonOkF Y M D ho mi S W J n iy iw su mo) == true)) else if c = 104 then (((dmonOkF Y M D ho mi S W J n iy iw su mo) == true)) else if c = 66 then (((dBOkF Y M D ho mi S W J n iy iw su mo) == true)) else if c = 89 then (((dYOkF Y M D ho mi S W J n iy iw su mo) == true)) else if c = 67 then (((ctwoOkF (dcen0F Y)) == true)) else if c = 121 then (((ctwoOkF (dcen1F Y)) == true)) else if c = 109 then (((dmOkF Y M D ho mi S W J n iy iw su mo) == true)) else if c = 100 then (((ddOkF Y M D ho mi S W J n iy iw su mo) == true)) else if c = 101 then (((deOkF Y M D ho mi S W J n iy iw su mo) == true)) else if c = 72 then (((dHOkF Y M D ho mi S W J n iy iw su mo) == true)) else if c = 107 then (((dkOkF Y M D ho mi S W J n iy iw su mo) == true)) else if c = 73 then (((dIOkF Y M D ho mi S W J n iy iw su mo) == true)) else if c = 108 then (((dlOkF Y M D ho mi S W J n iy iw su mo) == true)) else if c = 77 then (((dMOkF Y M D ho mi S W J n iy iw su mo) == true)) else if c = 83 then (((dSOkF Y M D ho mi S W J n iy iw su mo) == true)) else if c = 106 then (((djOkF Y M D ho mi S W J n iy iw su mo) == true)) else if c = 112 then true else if c = 80 then true else if c = 117 then (((duOkF Y M D ho mi S W J n iy iw su mo) == true)) else if c = 119 then (((dwOkF Y M D ho mi S W J n iy iw su mo) == true)) else if c = 85 then (((dUOkF Y M D ho mi S W J n iy iw su mo) == true)) else if c = 87 then (((dWOkF Y M D ho mi S W J n iy iw su mo) == true)) else if c = 86 then (((dVOkF Y M D ho mi S W J n iy iw su mo) == true)) else if c = 71 then (((dGOkF Y M D ho mi S W J n iy iw su mo) == true)) else if c = 103 then (((ctwoOkF (dcen1F iy)) == true)) else if c = 115 then (((dsOkF Y M D ho mi S W J n iy iw su mo) == true)) else if c = 110 then true else if c = 116 then true else if c = 37 then true else if c = 122 then true else if c = 90 then true else false
def wjX (Y M D ho mi : Int) (S : Nat) (W J n iy iw su mo : Int) (c : Int) (g : Bool) : ByteArray := if c = 97 then wt_97F Y M D ho mi S W J n iy iw su mo else if c = 65 then wt_65F Y M D ho mi S W J n iy iw su mo else if c = 98 then wt_98F Y M D ho mi S W J n iy iw su mo else if c = 104 then wt_104F Y M D ho mi S W J n iy iw su mo else if c = 66 then wt_66F Y M D ho mi S W J n iy iw su mo else if c = 89 then wt_89F Y M D ho mi S W J n iy iw su mo else if c = 67 then wt_67F Y M D ho mi S W J n iy iw su mo else if c = 121 then wt_121F Y M D ho mi S W J n iy iw su mo else if c = 109 then wt_109F Y M D ho mi S W J n iy iw su mo else if c = 100 then wt_100F Y M D ho mi S W J n iy iw su mo else if c = 101 then wt_101F Y M D ho mi S W J n iy iw su mo else if c = 72 then wt_72F Y M D ho mi S W J n iy iw su mo else if c = 107 then wt_107F Y M D ho mi S W J n iy iw su mo else if c = 73 then wt_73F Y M D ho mi S W J n iy iw su mo else if c = 108 then wt_108F Y M D ho mi S W J n iy iw su mo else if c = 77 then wt_77F Y M D ho mi S W J n iy iw su mo else if c = 83 then wt_83F Y M D ho mi S W J n iy iw su mo else if c = 106 then wt_106F Y M D ho mi S W J n iy iw su mo else if c = 112 then (bif g then wt_112aF Y M D ho mi S W J n iy iw su mo else wt_112bF Y M D ho mi S W J n iy iw su mo) else if c = 80 then (bif g then wt_80aF Y M D ho mi S W J n iy iw su mo else wt_80bF Y M D ho mi S W J n iy iw su mo) else if c = 117 then wt_117F Y M D ho mi S W J n iy iw su mo else if c = 119 then wt_119F Y M D ho mi S W J n iy iw su mo else if c = 85 then wt_85F Y M D ho mi S W J n iy iw su mo else if c = 87 then wt_87F Y M D ho mi S W J n iy iw su mo else if c = 86 then wt_86F Y M D ho mi S W J n iy iw su mo else if c = 71 then wt_71F Y M D ho mi S W J n iy iw su mo else if c = 103 then wt_103F Y M D ho mi S W J n iy iw su mo else if c = 115 then wt_115F Y M D ho mi S W J n iy iw su mo else if c = 110 then wt_110F Y M D ho mi S W J n iy iw su mo else if c = 116 then wt_116F Y M D ho mi S W J n iy iw su mo else if c = 37 then wt_37F Y M D ho mi S W J n iy iw su mo else if c = 122 then wt_122F Y M D ho mi S W J n iy iw su mo else if c = 90 then wt_90F Y M D ho mi S W J n iy iw su mo else ByteArray.empty
def wjP (c : Int) (g : Bool) : List Bool := if c = 112 then [true, true, g, false] else if c = 80 then [true, true, g, false] else [true, true, false]
def wjC (c : Int) : Bool := if c = 110 then true else if c = 116 then true else if c = 37 then true else if c = 122 then true else if c = 90 then true else false
def wjM (c : Int) : List Bool := if c = 67 then [false, false, true, true] else if c = 103 then [false, false, true, true] else if c = 121 then [false, false, true, true] else if c = 112 then [false, true, false, true] else if c = 80 then [false, true, false, true] else bif wjC c then [false, false, true] else [false, true, true]
def wjO (c : Int) : Nat := if c = 67 then 15 else if c = 103 then 14 else if c = 121 then 15 else if c = 112 then 8 else if c = 80 then 8 else bif wjC c then 4 else 0
def wjB (Y M D ho mi : Int) (S : Nat) (W J n iy iw su mo : Int) (c : Int) (g : Bool) : List Bool := if c = 112 then [decide (ho < 12) == g] else if c = 80 then [decide (ho < 12) == g] else bif wjC c then [] else [wcOkF Y M D ho mi S W J n iy iw su mo c]
theorem wjIn {c : Int} (h : wcInF c = true) : c = 97 ∨ c = 65 ∨ c = 98 ∨ c = 104 ∨ c = 66 ∨ c = 89 ∨ c = 67 ∨ c = 121 ∨ c = 109 ∨ c = 100 ∨ c = 101 ∨ c = 72 ∨ c = 107 ∨ c = 73 ∨ c = 108 ∨ c = 77 ∨ c = 83 ∨ c = 106 ∨ c = 112 ∨ c = 80 ∨ c = 117 ∨ c = 119 ∨ c = 85 ∨ c = 87 ∨ c = 86 ∨ c = 71 ∨ c = 103 ∨ c = 115 ∨ c = 110 ∨ c = 116 ∨ c = 37 ∨ c = 122 ∨ c = 90 := by
 by_cases hc : c = 97 ∨ c = 65 ∨ c = 98 ∨ c = 104 ∨ c = 66 ∨ c = 89 ∨ c = 67 ∨ c = 121 ∨ c = 109 ∨ c = 100 ∨ c = 101 ∨ c = 72 ∨ c = 107 ∨ c = 73 ∨ c = 108 ∨ c = 77 ∨ c = 83 ∨ c = 106 ∨ c = 112 ∨ c = 80 ∨ c = 117 ∨ c = 119 ∨ c = 85 ∨ c = 87 ∨ c = 86 ∨ c = 71 ∨ c = 103 ∨ c = 115 ∨ c = 110 ∨ c = 116 ∨ c = 37 ∨ c = 122 ∨ c = 90
 ·exact hc
 ·exfalso
  simp only [not_or] at hc
  unfold wcInF at h
  simp only [hc, if_false] at h
  cases h
theorem wjTX (Y M D ho mi : Int) (S : Nat) (W J n iy iw su mo : Int) {c : Int} (h : wcInF c = true) : wcTF Y M D ho mi S W J n iy iw su mo c = wjX Y M D ho mi S W J n iy iw su mo c (decide (ho < 12)) := by
 rcases wjIn h with rfl | rfl | rfl | rfl | rfl | rfl | rfl | rfl | rfl | rfl | rfl | rfl | rfl | rfl | rfl | rfl | rfl | rfl | rfl | rfl | rfl | rfl | rfl | rfl | rfl | rfl | rfl | rfl | rfl | rfl | rfl | rfl | rfl <;> rfl
theorem wjOk (Y M D ho mi : Int) (S : Nat) (W J n iy iw su mo : Int) {c : Int} (h : wcInF c = true) (hok : wcOkF Y M D ho mi S W J n iy iw su mo c = true) {x : Bool} (hx : x = true) : ∀ b ∈ wjB Y M D ho mi S W J n iy iw su mo c (decide (ho < 12)) ++ [x], b = true := by
 rcases wjIn h with rfl | rfl | rfl | rfl | rfl | rfl | rfl | rfl | rfl | rfl | rfl | rfl | rfl | rfl | rfl | rfl | rfl | rfl | rfl | rfl | rfl | rfl | rfl | rfl | rfl | rfl | rfl | rfl | rfl | rfl | rfl | rfl | rfl <;> first | exact aC hok (aC hx aN) | exact aC hx aN | exact aC (beq_self_eq_true _) (aC hx aN)
def DirR (n0 nx2 : Nat) (st : St) (l : List (Nat × Value)) (sps : List Sp) (m p bl : List Bool) : Prop :=
 (evCodeO (withB laW lpV) hk (evFuncO (withB laW lpV) hk 120) 66 30 wcR st p).map (roadT (withB laW lpV) n0 66 7 nx2 m l sps) = some (roadW n0 bl .normal l sps) ∧
 (evCodeO (withB laW lpV) hk (evFuncO (withB laW lpV) hk 120) 66 30 wcR st p).map (fun r => lefts r.2.2.2) = (evCodeO (withB laW lpV) hk (evFuncO (withB laW lpV) hk 120) 66 30 wcR st p).map (fun r => rights r.2.2.2)
theorem DirR.go {n0 nx2 : Nat} {st : St} {l : List (Nat × Value)} {sps : List Sp} {m p bl : List Bool} (h : DirR n0 nx2 st l sps m p bl) (hn : (Nat.ble n0 st.nx && (Nat.ble (withB laW lpV).lo n0 && Nat.ble (withB laW lpV).ng n0)) = true) (hg : ∀ x ∈ sps, x.good) (hl : ∀ b ∈ bl, b = true) {Q : AExit → St → Prop} (hq : Q .normal (canon 7 nx2 l (sps.map Sp.obj))) : Tr (withB laW lpV) n0 66 wcR st Q :=
 Tr.roadS (hkB laW lpV) (CxOk.withB laW lpV) (withB_intr laW_sound lpV_sound) h.1 h.2 hn hg hl hq
def wjT (f : ByteArray) (i : Int) : List (Nat × Value) := [(1, .pointer (some ⟨13, 0, none⟩)), (2, .string f), (3, .map (some 24)), (4, .pointer (some ⟨110, 0, none⟩)), (8, .int .i64 (wrNx i))]
def wjS0 (Y M D ho mi : Int) (S : Nat) (W J n iy iw su mo : Int) (X : ByteArray) (b : Nat) : List Sp := .cells 13 13 68 2 true [.pointer (some ⟨13, 0, none⟩), .slice (some ⟨111, 0, none⟩) (Nat.add 0 X.size) (Nat.add 0 X.size)] :: .row b 111 (strL X) X :: .cells 110 110 62 13 true (moV Y M D ho mi S W J n iy iw su mo) :: wcBs
def wjS1 (Y M D ho mi : Int) (S : Nat) (W J n iy iw su mo : Int) (s X : ByteArray) (b : Nat) : List Sp := .cells 13 13 68 2 true [.pointer (some ⟨13, 0, none⟩), .slice (some ⟨111, 0, none⟩) (Nat.add s.size X.size) (Nat.add s.size X.size)] :: .app b 111 s (strL X) X :: .cells 110 110 62 13 true (moV Y M D ho mi S W J n iy iw su mo) :: wcBs
def wjN (X : ByteArray) : Bool := newOk X.size 1 1 0 0 (some (strL X)) (strL X)
def wjG (s X : ByteArray) (H : Hp) (b : Nat) : Bool := growOk X.size 1 1 s.size s.size 0 (bytesV s).length (some (strL X)) (strL X) (loadOld H b 0 (Nat.mul s.size 1))
theorem wj0_R (Y M D ho mi : Int) (S : Nat) (W J n iy iw su mo : Int) (f : ByteArray) (i : Int) {c : Int} (g : Bool) (h : wcInF c = true) : DirR 110 112 (wd0 Y M D ho mi S W J n iy iw su mo f i c) (wjT f i) (wjS0 Y M D ho mi S W J n iy iw su mo (wjX Y M D ho mi S W J n iy iw su mo c g) (135 + wjO c)) (wjM c) (wjP c g) (wjB Y M D ho mi S W J n iy iw su mo c g ++ [wjN (wjX Y M D ho mi S W J n iy iw su mo c g)]) := by
 rcases wjIn h with rfl | rfl | rfl | rfl | rfl | rfl | rfl | rfl | rfl | rfl | rfl | rfl | rfl | rfl | rfl | rfl | rfl | rfl | rfl | rfl | rfl | rfl | rfl | rfl | rfl | rfl | rfl | rfl | rfl | rfl | rfl | rfl | rfl
 ·exact ⟨by kernel_rfl, by kernel_rfl⟩
 ·exact ⟨by kernel_rfl, by kernel_rfl⟩
 ·exact ⟨by kernel_rfl, by kernel_rfl⟩
 ·exact ⟨by kernel_rfl, by kernel_rfl⟩
 ·exact ⟨by kernel_rfl, by kernel_rfl⟩
 ·exact ⟨by kernel_rfl, by kernel_rfl⟩
 ·exact ⟨by kernel_rfl, by kernel_rfl⟩
 ·exact ⟨by kernel_rfl, by kernel_rfl⟩
 ·exact ⟨by kernel_rfl, by kernel_rfl⟩
 ·exact ⟨by kernel_rfl, by kernel_rfl⟩
 ·exact ⟨by kernel_rfl, by kernel_rfl⟩
 ·exact ⟨by kernel_rfl, by kernel_rfl⟩
 ·exact ⟨by kernel_rfl, by kernel_rfl⟩
 ·exact ⟨by kernel_rfl, by kernel_rfl⟩
 ·exact ⟨by kernel_rfl, by kernel_rfl⟩
 ·exact ⟨by kernel_rfl, by kernel_rfl⟩
 ·exact ⟨by kernel_rfl, by kernel_rfl⟩
 ·exact ⟨by kernel_rfl, by kernel_rfl⟩
 ·cases g <;> exact ⟨by kernel_rfl, by kernel_rfl⟩
 ·cases g <;> exact ⟨by kernel_rfl, by kernel_rfl⟩
 ·exact ⟨by kernel_rfl, by kernel_rfl⟩
 ·exact ⟨by kernel_rfl, by kernel_rfl⟩
 ·exact ⟨by kernel_rfl, by kernel_rfl⟩
 ·exact ⟨by kernel_rfl, by kernel_rfl⟩
 ·exact ⟨by kernel_rfl, by kernel_rfl⟩
 ·exact ⟨by kernel_rfl, by kernel_rfl⟩
 ·exact ⟨by kernel_rfl, by kernel_rfl⟩
 ·exact ⟨by kernel_rfl, by kernel_rfl⟩
 ·exact ⟨by kernel_rfl, by kernel_rfl⟩
 ·exact ⟨by kernel_rfl, by kernel_rfl⟩
 ·exact ⟨by kernel_rfl, by kernel_rfl⟩
 ·exact ⟨by kernel_rfl, by kernel_rfl⟩
 ·exact ⟨by kernel_rfl, by kernel_rfl⟩
theorem wj1_R (Y M D ho mi : Int) (S : Nat) (W J n iy iw su mo : Int) (f : ByteArray) (i : Int) (s : ByteArray) {c : Int} (g : Bool) (h : wcInF c = true) : DirR 110 112 (wd1 Y M D ho mi S W J n iy iw su mo f i c s) (wjT f i) (wjS1 Y M D ho mi S W J n iy iw su mo s (wjX Y M D ho mi S W J n iy iw su mo c g) (136 + wjO c)) (wjM c) (wjP c g) (wjB Y M D ho mi S W J n iy iw su mo c g ++ [wjG s (wjX Y M D ho mi S W J n iy iw su mo c g) (wcHp s) 111]) := by
 rcases wjIn h with rfl | rfl | rfl | rfl | rfl | rfl | rfl | rfl | rfl | rfl | rfl | rfl | rfl | rfl | rfl | rfl | rfl | rfl | rfl | rfl | rfl | rfl | rfl | rfl | rfl | rfl | rfl | rfl | rfl | rfl | rfl | rfl | rfl
 ·exact ⟨by kernel_rfl, by kernel_rfl⟩
 ·exact ⟨by kernel_rfl, by kernel_rfl⟩
 ·exact ⟨by kernel_rfl, by kernel_rfl⟩
 ·exact ⟨by kernel_rfl, by kernel_rfl⟩
 ·exact ⟨by kernel_rfl, by kernel_rfl⟩
 ·exact ⟨by kernel_rfl, by kernel_rfl⟩
 ·exact ⟨by kernel_rfl, by kernel_rfl⟩
 ·exact ⟨by kernel_rfl, by kernel_rfl⟩
 ·exact ⟨by kernel_rfl, by kernel_rfl⟩
 ·exact ⟨by kernel_rfl, by kernel_rfl⟩
 ·exact ⟨by kernel_rfl, by kernel_rfl⟩
 ·exact ⟨by kernel_rfl, by kernel_rfl⟩
 ·exact ⟨by kernel_rfl, by kernel_rfl⟩
 ·exact ⟨by kernel_rfl, by kernel_rfl⟩
 ·exact ⟨by kernel_rfl, by kernel_rfl⟩
 ·exact ⟨by kernel_rfl, by kernel_rfl⟩
 ·exact ⟨by kernel_rfl, by kernel_rfl⟩
 ·exact ⟨by kernel_rfl, by kernel_rfl⟩
 ·cases g <;> exact ⟨by kernel_rfl, by kernel_rfl⟩
 ·cases g <;> exact ⟨by kernel_rfl, by kernel_rfl⟩
 ·exact ⟨by kernel_rfl, by kernel_rfl⟩
 ·exact ⟨by kernel_rfl, by kernel_rfl⟩
 ·exact ⟨by kernel_rfl, by kernel_rfl⟩
 ·exact ⟨by kernel_rfl, by kernel_rfl⟩
 ·exact ⟨by kernel_rfl, by kernel_rfl⟩
 ·exact ⟨by kernel_rfl, by kernel_rfl⟩
 ·exact ⟨by kernel_rfl, by kernel_rfl⟩
 ·exact ⟨by kernel_rfl, by kernel_rfl⟩
 ·exact ⟨by kernel_rfl, by kernel_rfl⟩
 ·exact ⟨by kernel_rfl, by kernel_rfl⟩
 ·exact ⟨by kernel_rfl, by kernel_rfl⟩
 ·exact ⟨by kernel_rfl, by kernel_rfl⟩
 ·exact ⟨by kernel_rfl, by kernel_rfl⟩
theorem wc0_dir (Y M D ho mi : Int) (S : Nat) (W J n iy iw su mo : Int) (f : ByteArray) (i : Int) (c : Int) (hin : wcInF c = true) (hok : wcOkF Y M D ho mi S W J n iy iw su mo c = true) (hg : newOk (wcTF Y M D ho mi S W J n iy iw su mo c).size 1 1 0 0 (some (strL (wcTF Y M D ho mi S W J n iy iw su mo c))) (strL (wcTF Y M D ho mi S W J n iy iw su mo c)) = true) {Q : AExit → St → Prop} (hq : ∀ b, Q .normal (canon 7 112 (wT f (wrNx i)) (wB (Nat.add 0 (wcTF Y M D ho mi S W J n iy iw su mo c).size) :: (111, b, mkCells 111 5 1 false (bytesV (wcTF Y M D ho mi S W J n iy iw su mo c))) :: wBx Y M D ho mi S W J n iy iw su mo))) : Tr (withB laW lpV) 110 66 wcR (wd0 Y M D ho mi S W J n iy iw su mo f i c) Q := by
 rw [wjTX Y M D ho mi S W J n iy iw su mo hin] at hg hq
 exact (wj0_R Y M D ho mi S W J n iy iw su mo f i (decide (ho < 12)) hin).go rfl (wj_good (wj_good1 wcBs_good trivial) trivial (strL_eq _)) (wjOk Y M D ho mi S W J n iy iw su mo hin hok hg) (hq _)
theorem wc1_dir (Y M D ho mi : Int) (S : Nat) (W J n iy iw su mo : Int) (f : ByteArray) (i : Int) (c : Int) (s : ByteArray) (hin : wcInF c = true) (hok : wcOkF Y M D ho mi S W J n iy iw su mo c = true) (hg : growOk (wcTF Y M D ho mi S W J n iy iw su mo c).size 1 1 s.size s.size 0 (bytesV s).length (some (strL (wcTF Y M D ho mi S W J n iy iw su mo c))) (strL (wcTF Y M D ho mi S W J n iy iw su mo c)) (loadOld (wcHp s) 111 0 (Nat.mul s.size 1)) = true) {Q : AExit → St → Prop} (hq : ∀ b, Q .normal (canon 7 112 (wT f (wrNx i)) (wB (Nat.add s.size (wcTF Y M D ho mi S W J n iy iw su mo c).size) :: (111, b, mkCells 111 5 1 false (bytesV (s ++ (wcTF Y M D ho mi S W J n iy iw su mo c)))) :: wBx Y M D ho mi S W J n iy iw su mo))) : Tr (withB laW lpV) 110 66 wcR (wd1 Y M D ho mi S W J n iy iw su mo f i c s) Q := by
 rw [wjTX Y M D ho mi S W J n iy iw su mo hin] at hg hq
 exact (wj1_R Y M D ho mi S W J n iy iw su mo f i s (decide (ho < 12)) hin).go rfl (wj_good (wj_good1 wcBs_good trivial) trivial (strL_eq _)) (wjOk Y M D ho mi S W J n iy iw su mo hin hok hg) (hq _)
end Go.Proofs.YthopphfehgdocaaGreatDoor
