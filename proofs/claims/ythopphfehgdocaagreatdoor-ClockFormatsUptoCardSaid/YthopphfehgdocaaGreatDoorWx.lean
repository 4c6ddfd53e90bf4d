import Derived.Test.YthopphfehgdocaaGreatDoorWr
import Derived.Test.YthopphfehgdocaaGreatDoorRef5
import Derived.Test.YthopphfehgdocaaGreatDoorRef6
set_option linter.unusedSimpArgs false
set_option linter.unusedVariables false
namespace Go.Proofs.YthopphfehgdocaaGreatDoor
open Go Go.RowKit Go.Ev Go.Proofs Go.Shelf
theorem wx0_plain (Y M D ho mi : Int) (S : Nat) (W J n : Int) (f : ByteArray) (i : Int) (h1 : ((rLt f i) == true) = true) (h2 : (rAt f i) = true) (h3 : ((r37 f i) == true) = true) (h4 : rN1 f i = true) {Q : AExit → St → Prop} (hq : Q .normal (canon 7 14 [(1, .int .i64 n), (2, .string f), (3, .pointer (some ⟨12, 0, none⟩)), (7, .slice (some ⟨13, 0, none⟩) (Nat.add 0 1) (Nat.add 0 1)), (8, .int .i64 (wrNx i))] [(12, 12, mkCells 12 24 8 true (tmV Y M D ho mi S W J)), (13, 28, mkCells 13 5 1 false (bytesV (at1 f i)))])) : Tr (withFns cx0 laU lpV) 12 68 (wrB) (wr0 Y M D ho mi S W J n f i) Q :=
 Tr.road (hkW laU lpV) (CxOk.withFns cx_ok laU lpV) (withFns_intr laU_sound lpV_sound) (m := (bitsN 11 1791)) (p := (bitsN 9 255)) (k := 5) (n := 30) (by kernel_rfl) (by kernel_rfl) (by kernel_rfl) (by kernel_rfl) (fun r hr => jC (vO (by kernel_rfl) hr) (jC (row_new (new := [Value.int .u8 (((f[i.toNat]?).getD 0).toNat : Int)]) (by kernel_rfl) hr (at1_bytes f i)) jN)) (by kernel_rfl) (aC h1 (aC h2 (C6 h3 (aC h2 (aC h4 aN))))) hq
theorem wx1_plain (Y M D ho mi : Int) (S : Nat) (W J n : Int) (f : ByteArray) (i : Int) (s : ByteArray) (h1 : ((rLt f i) == true) = true) (h2 : (rAt f i) = true) (h3 : ((r37 f i) == true) = true) (h4 : rG1 f i s (wrHp Y M D ho mi S W J s) 13 = true) {Q : AExit → St → Prop} (hq : Q .normal (canon 7 14 [(1, .int .i64 n), (2, .string f), (3, .pointer (some ⟨12, 0, none⟩)), (7, .slice (some ⟨13, 0, none⟩) (Nat.add s.size 1) (Nat.add s.size 1)), (8, .int .i64 (wrNx i))] [(12, 12, mkCells 12 24 8 true (tmV Y M D ho mi S W J)), (13, 29, mkCells 13 5 1 false (bytesV (s ++ (at1 f i))))])) : Tr (withFns cx0 laU lpV) 12 68 (wrB) (wr1 Y M D ho mi S W J n f i s) Q :=
 Tr.road (hkW laU lpV) (CxOk.withFns cx_ok laU lpV) (withFns_intr laU_sound lpV_sound) (m := (bitsN 11 1791)) (p := (bitsN 9 255)) (k := 5) (n := 30) (by kernel_rfl) (by kernel_rfl) (by kernel_rfl) (by kernel_rfl) (fun r hr => jC (vO (by kernel_rfl) hr) (jC (row_app (s := s) (new := [Value.int .u8 (((f[i.toNat]?).getD 0).toNat : Int)]) (by kernel_rfl) hr (at1_bytes f i)) jN)) (by kernel_rfl) (aC h1 (aC h2 (C6 h3 (aC h2 (aC h4 aN))))) hq
theorem wx0_last (Y M D ho mi : Int) (S : Nat) (W J n : Int) (f : ByteArray) (i : Int) (h1 : ((rLt f i) == true) = true) (h2 : (rAt f i) = true) (h3 : ((r37 f i) == false) = true) (h4 : ((rEnd f i) == true) = true) (h5 : rN1 f i = true) {Q : AExit → St → Prop} (hq : Q .normal (canon 7 14 [(1, .int .i64 n), (2, .string f), (3, .pointer (some ⟨12, 0, none⟩)), (7, .slice (some ⟨13, 0, none⟩) (Nat.add 0 1) (Nat.add 0 1)), (8, .int .i64 (wrNx i))] [(12, 12, mkCells 12 24 8 true (tmV Y M D ho mi S W J)), (13, 33, mkCells 13 5 1 false (bytesV (at1 f i)))])) : Tr (withFns cx0 laU lpV) 12 68 (wrB) (wr0 Y M D ho mi S W J n f i) Q :=
 Tr.road (hkW laU lpV) (CxOk.withFns cx_ok laU lpV) (withFns_intr laU_sound lpV_sound) (m := (bitsN 11 2047)) (p := (bitsN 9 129)) (k := 5) (n := 30) (by kernel_rfl) (by kernel_rfl) (by kernel_rfl) (by kernel_rfl) (fun r hr => jC (vO (by kernel_rfl) hr) (jC (row_new (new := [Value.int .u8 (((f[i.toNat]?).getD 0).toNat : Int)]) (by kernel_rfl) hr (at1_bytes f i)) jN)) (by kernel_rfl) (aC h1 (aC h2 (C6 h3 (aC h4 (aC h2 (aC h5 aN)))))) hq
theorem wx1_last (Y M D ho mi : Int) (S : Nat) (W J n : Int) (f : ByteArray) (i : Int) (s : ByteArray) (h1 : ((rLt f i) == true) = true) (h2 : (rAt f i) = true) (h3 : ((r37 f i) == false) = true) (h4 : ((rEnd f i) == true) = true) (h5 : rG1 f i s (wrHp Y M D ho mi S W J s) 13 = true) {Q : AExit → St → Prop} (hq : Q .normal (canon 7 14 [(1, .int .i64 n), (2, .string f), (3, .pointer (some ⟨12, 0, none⟩)), (7, .slice (some ⟨13, 0, none⟩) (Nat.add s.size 1) (Nat.add s.size 1)), (8, .int .i64 (wrNx i))] [(12, 12, mkCells 12 24 8 true (tmV Y M D ho mi S W J)), (13, 34, mkCells 13 5 1 false (bytesV (s ++ (at1 f i))))])) : Tr (withFns cx0 laU lpV) 12 68 (wrB) (wr1 Y M D ho mi S W J n f i s) Q :=
 Tr.road (hkW laU lpV) (CxOk.withFns cx_ok laU lpV) (withFns_intr laU_sound lpV_sound) (m := (bitsN 11 2047)) (p := (bitsN 9 129)) (k := 5) (n := 30) (by kernel_rfl) (by kernel_rfl) (by kernel_rfl) (by kernel_rfl) (fun r hr => jC (vO (by kernel_rfl) hr) (jC (row_app (s := s) (new := [Value.int .u8 (((f[i.toNat]?).getD 0).toNat : Int)]) (by kernel_rfl) hr (at1_bytes f i)) jN)) (by kernel_rfl) (aC h1 (aC h2 (C6 h3 (aC h4 (aC h2 (aC h5 aN)))))) hq
theorem wx0_dir (Y M D ho mi : Int) (S : Nat) (W J n : Int) (f : ByteArray) (i : Int) (h1 : ((rLt f i) == true) = true) (h2 : (rAt f i) = true) (h3 : ((r37 f i) == false) = true) (h4 : ((rEnd f i) == false) = true) (h5 : (rAt f (wrNx i)) = true) (h6 : ((pieceOkF Y M D ho mi S W J n (rB f i)) == true) = true) (h7 : ((!((ByteArray.toList (longerF (rB f i))) == (ByteArray.toList (ByteArray.mk #[])))) == false) = true) (h8 : ((!(pieceBF (rB f i))) == false) = true) (h9 : newOk (pieceSF Y M D ho mi S W J n (atI f (wrNx i)).toNat).size 1 1 0 0 (some (strL (pieceSF Y M D ho mi S W J n (atI f (wrNx i)).toNat))) (strL (pieceSF Y M D ho mi S W J n (atI f (wrNx i)).toNat)) = true) {Q : AExit → St → Prop} (hq : Q .normal (canon 7 14 [(1, .int .i64 n), (2, .string f), (3, .pointer (some ⟨12, 0, none⟩)), (7, .slice (some ⟨13, 0, none⟩) (Nat.add 0 (pieceSF Y M D ho mi S W J n (atI f (wrNx i)).toNat).size) (Nat.add 0 (pieceSF Y M D ho mi S W J n (atI f (wrNx i)).toNat).size)), (8, .int .i64 (wrNx (wrNx i)))] [(12, 12, mkCells 12 24 8 true (tmV Y M D ho mi S W J)), (13, 49, mkCells 13 5 1 false (bytesV (pieceSF Y M D ho mi S W J n (atI f (wrNx i)).toNat)))])) : Tr (withFns cx0 laU lpV) 12 68 (wrB) (wr0 Y M D ho mi S W J n f i) Q :=
 Tr.road (hkW laU lpV) (CxOk.withFns cx_ok laU lpV) (withFns_intr laU_sound lpV_sound) (m := (bitsN 14 16383)) (p := (bitsN 11 1)) (k := 5) (n := 30) (by kernel_rfl) (by kernel_rfl) (by kernel_rfl) (by kernel_rfl) (fun r hr => jC (vO (by kernel_rfl) hr) (jC (row_new (new := (strL (pieceSF Y M D ho mi S W J n (atI f (wrNx i)).toNat))) (by kernel_rfl) hr (strL_eq _)) jN)) (by kernel_rfl) (aC h1 (aC h2 (C6 h3 (aC h4 (aC h5 (aC h6 (aC h7 (aC h8 (aC h9 aN))))))))) hq
theorem wx1_dir (Y M D ho mi : Int) (S : Nat) (W J n : Int) (f : ByteArray) (i : Int) (s : ByteArray) (h1 : ((rLt f i) == true) = true) (h2 : (rAt f i) = true) (h3 : ((r37 f i) == false) = true) (h4 : ((rEnd f i) == false) = true) (h5 : (rAt f (wrNx i)) = true) (h6 : ((pieceOkF Y M D ho mi S W J n (rB f i)) == true) = true) (h7 : ((!((ByteArray.toList (longerF (rB f i))) == (ByteArray.toList (ByteArray.mk #[])))) == false) = true) (h8 : ((!(pieceBF (rB f i))) == false) = true) (h9 : growOk (pieceSF Y M D ho mi S W J n (atI f (wrNx i)).toNat).size 1 1 s.size s.size 0 (bytesV s).length (some (strL (pieceSF Y M D ho mi S W J n (atI f (wrNx i)).toNat))) (strL (pieceSF Y M D ho mi S W J n (atI f (wrNx i)).toNat)) (loadOld (wrHp Y M D ho mi S W J s) 13 0 (Nat.mul s.size 1)) = true) {Q : AExit → St → Prop} (hq : Q .normal (canon 7 14 [(1, .int .i64 n), (2, .string f), (3, .pointer (some ⟨12, 0, none⟩)), (7, .slice (some ⟨13, 0, none⟩) (Nat.add s.size (pieceSF Y M D ho mi S W J n (atI f (wrNx i)).toNat).size) (Nat.add s.size (pieceSF Y M D ho mi S W J n (atI f (wrNx i)).toNat).size)), (8, .int .i64 (wrNx (wrNx i)))] [(12, 12, mkCells 12 24 8 true (tmV Y M D ho mi S W J)), (13, 50, mkCells 13 5 1 false (bytesV (s ++ (pieceSF Y M D ho mi S W J n (atI f (wrNx i)).toNat))))])) : Tr (withFns cx0 laU lpV) 12 68 (wrB) (wr1 Y M D ho mi S W J n f i s) Q :=
 Tr.road (hkW laU lpV) (CxOk.withFns cx_ok laU lpV) (withFns_intr laU_sound lpV_sound) (m := (bitsN 14 16383)) (p := (bitsN 11 1)) (k := 5) (n := 30) (by kernel_rfl) (by kernel_rfl) (by kernel_rfl) (by kernel_rfl) (fun r hr => jC (vO (by kernel_rfl) hr) (jC (row_app (s := s) (new := (strL (pieceSF Y M D ho mi S W J n (atI f (wrNx i)).toNat))) (by kernel_rfl) hr (strL_eq _)) jN)) (by kernel_rfl) (aC h1 (aC h2 (C6 h3 (aC h4 (aC h5 (aC h6 (aC h7 (aC h8 (aC h9 aN))))))))) hq
theorem wx0_not (Y M D ho mi : Int) (S : Nat) (W J n : Int) (f : ByteArray) (i : Int) (h1 : ((rLt f i) == true) = true) (h2 : (rAt f i) = true) (h3 : ((r37 f i) == false) = true) (h4 : ((rEnd f i) == false) = true) (h5 : (rAt f (wrNx i)) = true) (h6 : ((pieceOkF Y M D ho mi S W J n (rB f i)) == true) = true) (h7 : ((!((ByteArray.toList (longerF (rB f i))) == (ByteArray.toList (ByteArray.mk #[])))) == false) = true) (h8 : ((!(pieceBF (rB f i))) == true) = true) (h9 : (((decide (0 ≤ (IntKind.i64.wrap (i + 2)))) && (decide ((IntKind.i64.wrap (i + 2)) ≤ ((((ByteArray.size f) : Nat) : Int))))) && ((decide (0 ≤ i)) && (decide (i ≤ ((((Int.toNat (IntKind.i64.wrap (i + 2))) : Nat) : Int)))))) = true) (h10 : newOk (f.extract i.toNat (IntKind.i64.wrap (i + 2)).toNat).size 1 1 0 0 (some (strL (f.extract i.toNat (IntKind.i64.wrap (i + 2)).toNat))) (strL (f.extract i.toNat (IntKind.i64.wrap (i + 2)).toNat)) = true) {Q : AExit → St → Prop} (hq : Q .normal (canon 7 14 [(1, .int .i64 n), (2, .string f), (3, .pointer (some ⟨12, 0, none⟩)), (7, .slice (some ⟨13, 0, none⟩) (Nat.add 0 (f.extract i.toNat (IntKind.i64.wrap (i + 2)).toNat).size) (Nat.add 0 (f.extract i.toNat (IntKind.i64.wrap (i + 2)).toNat).size)), (8, .int .i64 (wrNx (wrNx i)))] [(12, 12, mkCells 12 24 8 true (tmV Y M D ho mi S W J)), (13, 55, mkCells 13 5 1 false (bytesV (f.extract i.toNat (IntKind.i64.wrap (i + 2)).toNat)))])) : Tr (withFns cx0 laU lpV) 12 68 (wrB) (wr0 Y M D ho mi S W J n f i) Q :=
 Tr.road (hkW laU lpV) (CxOk.withFns cx_ok laU lpV) (withFns_intr laU_sound lpV_sound) (m := (bitsN 15 32767)) (p := (bitsN 11 513)) (k := 5) (n := 30) (by kernel_rfl) (by kernel_rfl) (by kernel_rfl) (by kernel_rfl) (fun r hr => jC (vO (by kernel_rfl) hr) (jC (row_new (new := (strL (f.extract i.toNat (IntKind.i64.wrap (i + 2)).toNat))) (by kernel_rfl) hr (strL_eq _)) jN)) (by kernel_rfl) (aC h1 (aC h2 (C6 h3 (aC h4 (aC h5 (aC h6 (aC h7 (aC h8 (aC h9 (aC h10 aN)))))))))) hq
theorem wx1_not (Y M D ho mi : Int) (S : Nat) (W J n : Int) (f : ByteArray) (i : Int) (s : ByteArray) (h1 : ((rLt f i) == true) = true) (h2 : (rAt f i) = true) (h3 : ((r37 f i) == false) = true) (h4 : ((rEnd f i) == false) = true) (h5 : (rAt f (wrNx i)) = true) (h6 : ((pieceOkF Y M D ho mi S W J n (rB f i)) == true) = true) (h7 : ((!((ByteArray.toList (longerF (rB f i))) == (ByteArray.toList (ByteArray.mk #[])))) == false) = true) (h8 : ((!(pieceBF (rB f i))) == true) = true) (h9 : (((decide (0 ≤ (IntKind.i64.wrap (i + 2)))) && (decide ((IntKind.i64.wrap (i + 2)) ≤ ((((ByteArray.size f) : Nat) : Int))))) && ((decide (0 ≤ i)) && (decide (i ≤ ((((Int.toNat (IntKind.i64.wrap (i + 2))) : Nat) : Int)))))) = true) (h10 : growOk (f.extract i.toNat (IntKind.i64.wrap (i + 2)).toNat).size 1 1 s.size s.size 0 (bytesV s).length (some (strL (f.extract i.toNat (IntKind.i64.wrap (i + 2)).toNat))) (strL (f.extract i.toNat (IntKind.i64.wrap (i + 2)).toNat)) (loadOld (wrHp Y M D ho mi S W J s) 13 0 (Nat.mul s.size 1)) = true) {Q : AExit → St → Prop} (hq : Q .normal (canon 7 14 [(1, .int .i64 n), (2, .string f), (3, .pointer (some ⟨12, 0, none⟩)), (7, .slice (some ⟨13, 0, none⟩) (Nat.add s.size (f.extract i.toNat (IntKind.i64.wrap (i + 2)).toNat).size) (Nat.add s.size (f.extract i.toNat (IntKind.i64.wrap (i + 2)).toNat).size)), (8, .int .i64 (wrNx (wrNx i)))] [(12, 12, mkCells 12 24 8 true (tmV Y M D ho mi S W J)), (13, 56, mkCells 13 5 1 false (bytesV (s ++ (f.extract i.toNat (IntKind.i64.wrap (i + 2)).toNat))))])) : Tr (withFns cx0 laU lpV) 12 68 (wrB) (wr1 Y M D ho mi S W J n f i s) Q :=
 Tr.road (hkW laU lpV) (CxOk.withFns cx_ok laU lpV) (withFns_intr laU_sound lpV_sound) (m := (bitsN 15 32767)) (p := (bitsN 11 513)) (k := 5) (n := 30) (by kernel_rfl) (by kernel_rfl) (by kernel_rfl) (by kernel_rfl) (fun r hr => jC (vO (by kernel_rfl) hr) (jC (row_app (s := s) (new := (strL (f.extract i.toNat (IntKind.i64.wrap (i + 2)).toNat))) (by kernel_rfl) hr (strL_eq _)) jN)) (by kernel_rfl) (aC h1 (aC h2 (C6 h3 (aC h4 (aC h5 (aC h6 (aC h7 (aC h8 (aC h9 (aC h10 aN)))))))))) hq
theorem wx0_out (Y M D ho mi : Int) (S : Nat) (W J n : Int) (f : ByteArray) (i : Int) (h1 : ((rLt f i) == false) = true) {Q : AExit → St → Prop} (hq : Q (.exit 0) (canon 7 13 [(1, .int .i64 n), (2, .string f), (3, .pointer (some ⟨12, 0, none⟩)), (7, .slice none 0 0), (8, .int .i64 i)] [(12, 12, mkCells 12 24 8 true (tmV Y M D ho mi S W J))])) : Tr (withFns cx0 laU lpV) 12 68 (wrB) (wr0 Y M D ho mi S W J n f i) Q :=
 Tr.road (hkW laU lpV) (CxOk.withFns cx_ok laU lpV) (withFns_intr laU_sound lpV_sound) (m := [true]) (p := [false]) (k := 5) (n := 30) (by kernel_rfl) (by kernel_rfl) (by kernel_rfl) (by kernel_rfl) (fun r hr => jC (vO (by kernel_rfl) hr) jN) (by kernel_rfl) (aC h1 aN) hq
theorem wx0_fin (Y M D ho mi : Int) (S : Nat) (W J n : Int) (f : ByteArray) (i : Int) {R : Value → Hp → Nat → Prop}  (hq : ∀ H nx, R (oneOf [(Value.string (ByteArray.mk #[]))]) H nx) : TrL (withFns cx0 laU lpV) 12 68 ((bodyOf Tryz.f38).drop 4) (wr0 Y M D ho mi S W J n f i) (fun e s2 => (match e with | .exit _ => False | _ => True) ∧ ∃ l, evResults (withFns cx0 laU lpV) s2.tm s2.H Tryz.f38.results.toList = some l ∧ R (oneOf l) s2.H s2.nx) :=
 TrL.fin (hkW laU lpV) (CxOk.withFns cx_ok laU lpV) (withFns_intr laU_sound lpV_sound) (m := []) (bl := []) (p := []) (k := 5) (n := 30) (vs := [(Value.string (ByteArray.mk #[]))]) (by kernel_rfl) (by kernel_rfl) (by kernel_rfl) (by kernel_rfl) (by kernel_rfl) aN hq
theorem wx1_out (Y M D ho mi : Int) (S : Nat) (W J n : Int) (f : ByteArray) (i : Int) (s : ByteArray) (h1 : ((rLt f i) == false) = true) {Q : AExit → St → Prop} (hq : Q (.exit 0) (canon 7 14 [(1, .int .i64 n), (2, .string f), (3, .pointer (some ⟨12, 0, none⟩)), (7, .slice (some ⟨13, 0, none⟩) s.size s.size), (8, .int .i64 i)] [(12, 12, mkCells 12 24 8 true (tmV Y M D ho mi S W J)), (13, 13, mkCells 13 5 1 false (bytesV s))])) : Tr (withFns cx0 laU lpV) 12 68 (wrB) (wr1 Y M D ho mi S W J n f i s) Q :=
 Tr.road (hkW laU lpV) (CxOk.withFns cx_ok laU lpV) (withFns_intr laU_sound lpV_sound) (m := [true]) (p := [false]) (k := 5) (n := 30) (by kernel_rfl) (by kernel_rfl) (by kernel_rfl) (by kernel_rfl) (fun r hr => jC (vO (by kernel_rfl) hr) (jC (row_same (by kernel_rfl) hr) jN)) (by kernel_rfl) (aC h1 aN) hq
theorem wx_in (Y M D ho mi : Int) (S : Nat) (W J n : Int) (f : ByteArray)  {Q : AExit → St → Prop} {c' : Code} {lc' : List Code} (hq : TrL (withFns cx0 laU lpV) 12 68 (c' :: lc') (canon 7 13 [(1, .int .i64 n), (2, .string f), (3, .pointer (some ⟨12, 0, none⟩)), (7, .slice none 0 0), (8, .int .i64 0)] [(12, 12, mkCells 12 24 8 true (tmV Y M D ho mi S W J))]) Q) : TrL (withFns cx0 laU lpV) 12 68 ((bodyOf Tryz.f38).take 3 ++ c' :: lc') (entry Tryz.f38 #[.agg (tmV Y M D ho mi S W J).toArray, .int .i64 n, .string f] H0 12) Q :=
 TrL.road (hkW laU lpV) (CxOk.withFns cx_ok laU lpV) (withFns_intr laU_sound lpV_sound) (m := []) (p := []) (k := 5) (n := 30) (by kernel_rfl) (by kernel_rfl) (by kernel_rfl) (by kernel_rfl) (fun r hr => jC (vO (by kernel_rfl) hr) jN) (by kernel_rfl) aN hq
theorem wx0_lon (Y M D ho mi : Int) (S : Nat) (W J n : Int) (f : ByteArray) (i : Int) (h1 : ((rLt f i) == true) = true) (h2 : (rAt f i) = true) (h3 : ((r37 f i) == false) = true) (h4 : ((rEnd f i) == false) = true) (h5 : (rAt f (wrNx i)) = true) (h6 : ((pieceOkF Y M D ho mi S W J n (rB f i)) == true) = true) (h7 : ((!((ByteArray.toList (longerF (rB f i))) == (ByteArray.toList (ByteArray.mk #[])))) == true) = true) (h8 : ((wrOkF Y M D ho mi S W J n (longerF (rB f i))) == true) = true) (h9 : newOk (wrF Y M D ho mi S W J n (longerF (atI f (wrNx i)).toNat)).size 1 1 0 0 (some (strL (wrF Y M D ho mi S W J n (longerF (atI f (wrNx i)).toNat)))) (strL (wrF Y M D ho mi S W J n (longerF (atI f (wrNx i)).toNat))) = true) {Q : AExit → St → Prop} (hq : Q .normal (canon 7 14 [(1, .int .i64 n), (2, .string f), (3, .pointer (some ⟨12, 0, none⟩)), (7, .slice (some ⟨13, 0, none⟩) (Nat.add 0 (wrF Y M D ho mi S W J n (longerF (atI f (wrNx i)).toNat)).size) (Nat.add 0 (wrF Y M D ho mi S W J n (longerF (atI f (wrNx i)).toNat)).size)), (8, .int .i64 (wrNx (wrNx i)))] [(12, 12, mkCells 12 24 8 true (tmV Y M D ho mi S W J)), (13, 58, mkCells 13 5 1 false (bytesV (wrF Y M D ho mi S W J n (longerF (atI f (wrNx i)).toNat))))])) : Tr (withFns cx0 laU lpV) 12 68 (wrB) (wr0 Y M D ho mi S W J n f i) Q :=
 Tr.road (hkW laU lpV) (CxOk.withFns cx_ok laU lpV) (withFns_intr laU_sound lpV_sound) (m := (bitsN 16 45055)) (p := (bitsN 11 257)) (k := 5) (n := 30) (by kernel_rfl) (by kernel_rfl) (by kernel_rfl) (by kernel_rfl) (fun r hr => jC (vO (by kernel_rfl) hr) (jC (row_new (new := (strL (wrF Y M D ho mi S W J n (longerF (atI f (wrNx i)).toNat)))) (by kernel_rfl) hr (strL_eq _)) jN)) (by kernel_rfl) (aC h1 (aC h2 (C6 h3 (aC h4 (aC h5 (aC h6 (aC h7 (aC h8 (aC h9 aN))))))))) hq
theorem wx1_lon (Y M D ho mi : Int) (S : Nat) (W J n : Int) (f : ByteArray) (i : Int) (s : ByteArray) (h1 : ((rLt f i) == true) = true) (h2 : (rAt f i) = true) (h3 : ((r37 f i) == false) = true) (h4 : ((rEnd f i) == false) = true) (h5 : (rAt f (wrNx i)) = true) (h6 : ((pieceOkF Y M D ho mi S W J n (rB f i)) == true) = true) (h7 : ((!((ByteArray.toList (longerF (rB f i))) == (ByteArray.toList (ByteArray.mk #[])))) == true) = true) (h8 : ((wrOkF Y M D ho mi S W J n (longerF (rB f i))) == true) = true) (h9 : growOk (wrF Y M D ho mi S W J n (longerF (atI f (wrNx i)).toNat)).size 1 1 s.size s.size 0 (bytesV s).length (some (strL (wrF Y M D ho mi S W J n (longerF (atI f (wrNx i)).toNat)))) (strL (wrF Y M D ho mi S W J n (longerF (atI f (wrNx i)).toNat))) (loadOld (wrHp Y M D ho mi S W J s) 13 0 (Nat.mul s.size 1)) = true) {Q : AExit → St → Prop} (hq : Q .normal (canon 7 14 [(1, .int .i64 n), (2, .string f), (3, .pointer (some ⟨12, 0, none⟩)), (7, .slice (some ⟨13, 0, none⟩) (Nat.add s.size (wrF Y M D ho mi S W J n (longerF (atI f (wrNx i)).toNat)).size) (Nat.add s.size (wrF Y M D ho mi S W J n (longerF (atI f (wrNx i)).toNat)).size)), (8, .int .i64 (wrNx (wrNx i)))] [(12, 12, mkCells 12 24 8 true (tmV Y M D ho mi S W J)), (13, 59, mkCells 13 5 1 false (bytesV (s ++ (wrF Y M D ho mi S W J n (longerF (atI f (wrNx i)).toNat)))))])) : Tr (withFns cx0 laU lpV) 12 68 (wrB) (wr1 Y M D ho mi S W J n f i s) Q :=
 Tr.road (hkW laU lpV) (CxOk.withFns cx_ok laU lpV) (withFns_intr laU_sound lpV_sound) (m := (bitsN 16 45055)) (p := (bitsN 11 257)) (k := 5) (n := 30) (by kernel_rfl) (by kernel_rfl) (by kernel_rfl) (by kernel_rfl) (fun r hr => jC (vO (by kernel_rfl) hr) (jC (row_app (s := s) (new := (strL (wrF Y M D ho mi S W J n (longerF (atI f (wrNx i)).toNat)))) (by kernel_rfl) hr (strL_eq _)) jN)) (by kernel_rfl) (aC h1 (aC h2 (C6 h3 (aC h4 (aC h5 (aC h6 (aC h7 (aC h8 (aC h9 aN))))))))) hq
section
variable (Y M D ho mi : Int) (S : Nat) (W J n : Int) {f : ByteArray}
theorem wx_plain {s : ByteArray} {i : Nat} {x : UInt8} (hb : f.size ≤ 1000000000) (hi : i < f.size) (hx : f[i]? = some x) (h37 : x ≠ 37) (hs : s.size + 1 ≤ 1000000000) {Q : AExit → St → Prop} (hq : Q .normal (wrSt Y M D ho mi S W J n f (s ++ ⟨#[x]⟩) (i + 1))) : Tr (withFns cx0 laU lpV) 12 68 wrB (wrSt Y M D ho mi S W J n f s i) Q := by
 have e1 : at1 f (i : Int) = ⟨#[x]⟩ := at1_eq hx
 have e2 : wrNx (i : Int) = ((i + 1 : Nat) : Int) := wrNx_eq i (by omega)
 have hne : (s ++ ⟨#[x]⟩).size ≠ 0 := by rw [ByteArray.size_append]; show s.size + 1 ≠ 0; omega
 unfold wrSt at hq
 rw [if_neg hne] at hq
 unfold wrSt
 by_cases h0 : s.size = 0
 ·rw [if_pos h0]
  refine wx0_plain Y M D ho mi S W J n f i (c1 hi) (c2 hx) (c3 hx h37) (new_one _) ?_
  rw [post0 Y M D ho mi S W J n f _ _ (at1 f (i : Int)) 1 rfl, e1, e2]
  have := ba_nil h0
  subst this
  rw [ByteArray.empty_append] at hq
  exact hq
 ·rw [if_neg h0]
  refine wx1_plain Y M D ho mi S W J n f i s (c1 hi) (c2 hx) (c3 hx h37) (grow_one Y M D ho mi S W J s _ hs) ?_
  rw [post1 Y M D ho mi S W J n f _ _ s (at1 f (i : Int)) 1 rfl, e1, e2]
  exact hq
theorem wx_last {s : ByteArray} {i : Nat} (hb : f.size ≤ 1000000000) (hi : i + 1 = f.size) (hx : f[i]? = some 37) (hs : s.size + 1 ≤ 1000000000) {Q : AExit → St → Prop} (hq : Q .normal (wrSt Y M D ho mi S W J n f (s ++ ⟨#[37]⟩) (i + 1))) : Tr (withFns cx0 laU lpV) 12 68 wrB (wrSt Y M D ho mi S W J n f s i) Q := by
 have e1 : at1 f (i : Int) = ⟨#[37]⟩ := at1_eq hx
 have e2 : wrNx (i : Int) = ((i + 1 : Nat) : Int) := wrNx_eq i (by omega)
 have hne : (s ++ ⟨#[37]⟩).size ≠ 0 := by rw [ByteArray.size_append]; show s.size + 1 ≠ 0; omega
 unfold wrSt at hq
 rw [if_neg hne] at hq
 unfold wrSt
 by_cases h0 : s.size = 0
 ·rw [if_pos h0]
  refine wx0_last Y M D ho mi S W J n f i (c1 (by omega)) (c2 hx) (c3n hx) (c4 hi hb) (new_one _) ?_
  rw [post0 Y M D ho mi S W J n f _ _ (at1 f (i : Int)) 1 rfl, e1, e2]
  have := ba_nil h0
  subst this
  rw [ByteArray.empty_append] at hq
  exact hq
 ·rw [if_neg h0]
  refine wx1_last Y M D ho mi S W J n f i s (c1 (by omega)) (c2 hx) (c3n hx) (c4 hi hb) (grow_one Y M D ho mi S W J s _ hs) ?_
  rw [post1 Y M D ho mi S W J n f _ _ s (at1 f (i : Int)) 1 rfl, e1, e2]
  exact hq
theorem wx_dir1 {s : ByteArray} {i : Nat} {c : UInt8} (hb : f.size ≤ 1000000000) (hi : i + 1 < f.size) (hx : f[i]? = some 37) (hc : f[i + 1]? = some c) (hk : dir1Ok Y M D ho mi S W J n c = true) (hs : s.size + (dir1F Y M D ho mi S W J n c).size ≤ 1000000000) {Q : AExit → St → Prop} (hq : Q .normal (wrSt Y M D ho mi S W J n f (s ++ dir1F Y M D ho mi S W J n c) (i + 2))) : Tr (withFns cx0 laU lpV) 12 68 wrB (wrSt Y M D ho mi S W J n f s i) Q := by
 have e2 : wrNx (i : Int) = ((i + 1 : Nat) : Int) := wrNx_eq i (by omega)
 have e3 : wrNx (wrNx (i : Int)) = ((i + 2 : Nat) : Int) := by rw [e2]; exact wrNx_eq (i + 1) (by omega)
 have e4 : IntKind.i64.wrap ((i : Int) + 1) = ((i + 1 : Nat) : Int) := e2
 have e5 : atI f (wrNx (i : Int)) = c := by rw [e2]; exact atI_eq hc
 have e6 : ((f[(IntKind.i64.wrap ((i : Int) + 1)).toNat]?).getD 0) = c := e5
 have e7 : IntKind.i64.wrap ((i : Int) + 2) = ((i + 2 : Nat) : Int) := by rw [wrap_id _ (by omega) (by omega)]; omega
 have c5 : ((decide (0 ≤ (IntKind.i64.wrap ((i : Int) + 1)))) && (Option.isSome (GetElem?.getElem? f (Int.toNat (IntKind.i64.wrap ((i : Int) + 1)))))) = true := by rw [e4]; exact c2 hc
 unfold dir1Ok at hk
 simp only [Bool.and_eq_true, decide_eq_true_eq] at hk
 obtain ⟨⟨k1, k2⟩, k3⟩ := hk
 have k2' : (longerF c.toNat).size = 0 := by simpa using k2
 have c6 : ((pieceOkF Y M D ho mi S W J n ((((UInt8.toNat (Option.getD (GetElem?.getElem? f (Int.toNat (IntKind.i64.wrap ((i : Int) + 1)))) 0)) : Nat) : Int))) == true) = true := by
  show (pieceOkF Y M D ho mi S W J n ((((f[(IntKind.i64.wrap ((i : Int) + 1)).toNat]?).getD 0).toNat : Nat) : Int) == true) = true
  rw [e6, k1]; rfl
 have c7 : ((!((ByteArray.toList (longerF ((((UInt8.toNat (Option.getD (GetElem?.getElem? f (Int.toNat (IntKind.i64.wrap ((i : Int) + 1)))) 0)) : Nat) : Int)))) == (ByteArray.toList (ByteArray.mk #[])))) == false) = true := by
  show ((!(ByteArray.toList (longerF ((((f[(IntKind.i64.wrap ((i : Int) + 1)).toNat]?).getD 0).toNat : Nat) : Int)) == ByteArray.toList (ByteArray.mk #[]))) == false) = true
  rw [e6, ba_nil k2', ba_toList, ba_toList]
  rfl
 have hne : (s ++ dir1F Y M D ho mi S W J n c).size ≠ 0 := by rw [ByteArray.size_append]; omega
 unfold wrSt at hq
 rw [if_neg hne] at hq
 unfold wrSt
 cases hB : pieceBF c.toNat with
 | true =>
  have hd : dir1F Y M D ho mi S W J n c = pieceSF Y M D ho mi S W J n c.toNat := by unfold dir1F; rw [if_pos hB]
  rw [hd] at hs hq k3
  have c8 : ((!(pieceBF ((((UInt8.toNat (Option.getD (GetElem?.getElem? f (Int.toNat (IntKind.i64.wrap ((i : Int) + 1)))) 0)) : Nat) : Int)))) == false) = true := by
   show ((!(pieceBF ((((f[(IntKind.i64.wrap ((i : Int) + 1)).toNat]?).getD 0).toNat : Nat) : Int))) == false) = true
   rw [e6, hB]; rfl
  by_cases h0 : s.size = 0
  ·rw [if_pos h0]
   refine wx0_dir Y M D ho mi S W J n f i (c1 (by omega)) (c2 hx) (c3n hx) (c4n hi hb) c5 c6 c7 c8 (by rw [e5]; exact new_text _ k3 (by omega)) ?_
   rw [post0 Y M D ho mi S W J n f _ _ _ _ rfl, e5, e3]
   have := ba_nil h0
   subst this
   rw [ByteArray.empty_append] at hq
   exact hq
  ·rw [if_neg h0]
   refine wx1_dir Y M D ho mi S W J n f i s (c1 (by omega)) (c2 hx) (c3n hx) (c4n hi hb) c5 c6 c7 c8 (by rw [e5]; exact grow_text Y M D ho mi S W J s _ k3 hs) ?_
   rw [post1 Y M D ho mi S W J n f _ _ s _ _ rfl, e5, e3]
   exact hq
 | false =>
  have hd : dir1F Y M D ho mi S W J n c = ⟨#[37, c]⟩ := by unfold dir1F; rw [if_neg (by rw [hB]; simp)]
  have hX : f.extract (i : Int).toNat (IntKind.i64.wrap ((i : Int) + 2)).toNat = ⟨#[37, c]⟩ := by
   rw [e7]
   show f.extract i (i + 2) = _
   exact extract_two hi hx hc
  rw [hd] at hs hq k3
  have c8 : ((!(pieceBF ((((UInt8.toNat (Option.getD (GetElem?.getElem? f (Int.toNat (IntKind.i64.wrap ((i : Int) + 1)))) 0)) : Nat) : Int)))) == true) = true := by
   show ((!(pieceBF ((((f[(IntKind.i64.wrap ((i : Int) + 1)).toNat]?).getD 0).toNat : Nat) : Int))) == true) = true
   rw [e6, hB]; rfl
  have c9 : (((decide (0 ≤ (IntKind.i64.wrap ((i : Int) + 2)))) && (decide ((IntKind.i64.wrap ((i : Int) + 2)) ≤ ((((ByteArray.size f) : Nat) : Int))))) && ((decide (0 ≤ (i : Int))) && (decide ((i : Int) ≤ ((((Int.toNat (IntKind.i64.wrap ((i : Int) + 2))) : Nat) : Int)))))) = true := by
   rw [e7]
   simp only [Bool.and_eq_true, decide_eq_true_eq]
   omega
  by_cases h0 : s.size = 0
  ·rw [if_pos h0]
   refine wx0_not Y M D ho mi S W J n f i (c1 (by omega)) (c2 hx) (c3n hx) (c4n hi hb) c5 c6 c7 c8 c9 (by rw [hX]; exact new_text _ k3 (by omega)) ?_
   rw [post0 Y M D ho mi S W J n f _ _ _ _ rfl, hX, e3]
   have := ba_nil h0
   subst this
   rw [ByteArray.empty_append] at hq
   exact hq
  ·rw [if_neg h0]
   refine wx1_not Y M D ho mi S W J n f i s (c1 (by omega)) (c2 hx) (c3n hx) (c4n hi hb) c5 c6 c7 c8 c9 (by rw [hX]; exact grow_text Y M D ho mi S W J s _ k3 hs) ?_
   rw [post1 Y M D ho mi S W J n f _ _ s _ _ rfl, hX, e3]
   exact hq
def dir2F (Y M D ho mi : Int) (S : Nat) (W J n : Int) (c : UInt8) : ByteArray := if (longerF c.toNat).size = 0 then dir1F Y M D ho mi S W J n c else wrF Y M D ho mi S W J n (longerF c.toNat)
def dir2Ok (Y M D ho mi : Int) (S : Nat) (W J n : Int) (c : UInt8) : Bool := if (longerF c.toNat).size = 0 then dir1Ok Y M D ho mi S W J n c else pieceOkF Y M D ho mi S W J n c.toNat && wrOkF Y M D ho mi S W J n (longerF c.toNat) && decide (0 < (wrF Y M D ho mi S W J n (longerF c.toNat)).size)
theorem wx_dir {s : ByteArray} {i : Nat} {c : UInt8} (hb : f.size ≤ 1000000000) (hi : i + 1 < f.size) (hx : f[i]? = some 37) (hc : f[i + 1]? = some c) (hk : dir2Ok Y M D ho mi S W J n c = true) (hs : s.size + (dir2F Y M D ho mi S W J n c).size ≤ 1000000000) {Q : AExit → St → Prop} (hq : Q .normal (wrSt Y M D ho mi S W J n f (s ++ dir2F Y M D ho mi S W J n c) (i + 2))) : Tr (withFns cx0 laU lpV) 12 68 wrB (wrSt Y M D ho mi S W J n f s i) Q := by
 unfold dir2F at hs hq
 unfold dir2Ok at hk
 by_cases hl : (longerF c.toNat).size = 0
 ·rw [if_pos hl] at hs hq hk
  exact wx_dir1 Y M D ho mi S W J n hb hi hx hc hk hs hq
 ·rw [if_neg hl] at hs hq hk
  simp only [Bool.and_eq_true, decide_eq_true_eq] at hk
  obtain ⟨⟨k1, k2⟩, k3⟩ := hk
  have e2 : wrNx (i : Int) = ((i + 1 : Nat) : Int) := wrNx_eq i (by omega)
  have e3 : wrNx (wrNx (i : Int)) = ((i + 2 : Nat) : Int) := by rw [e2]; exact wrNx_eq (i + 1) (by omega)
  have e4 : IntKind.i64.wrap ((i : Int) + 1) = ((i + 1 : Nat) : Int) := e2
  have e5 : atI f (wrNx (i : Int)) = c := by rw [e2]; exact atI_eq hc
  have e6 : ((f[(IntKind.i64.wrap ((i : Int) + 1)).toNat]?).getD 0) = c := e5
  have c5 : ((decide (0 ≤ (IntKind.i64.wrap ((i : Int) + 1)))) && (Option.isSome (GetElem?.getElem? f (Int.toNat (IntKind.i64.wrap ((i : Int) + 1)))))) = true := by rw [e4]; exact c2 hc
  have c6 : ((pieceOkF Y M D ho mi S W J n ((((UInt8.toNat (Option.getD (GetElem?.getElem? f (Int.toNat (IntKind.i64.wrap ((i : Int) + 1)))) 0)) : Nat) : Int))) == true) = true := by
   show (pieceOkF Y M D ho mi S W J n ((((f[(IntKind.i64.wrap ((i : Int) + 1)).toNat]?).getD 0).toNat : Nat) : Int) == true) = true
   rw [e6, k1]; rfl
  have c7 : ((!((ByteArray.toList (longerF ((((UInt8.toNat (Option.getD (GetElem?.getElem? f (Int.toNat (IntKind.i64.wrap ((i : Int) + 1)))) 0)) : Nat) : Int)))) == (ByteArray.toList (ByteArray.mk #[])))) == true) = true := by
   show ((!(ByteArray.toList (longerF ((((f[(IntKind.i64.wrap ((i : Int) + 1)).toNat]?).getD 0).toNat : Nat) : Int)) == ByteArray.toList (ByteArray.mk #[]))) == true) = true
   rw [e6, ba_toList, ba_toList]
   have : (longerF c.toNat).data.toList ≠ [] := by
    intro h
    apply hl
    have := congrArg List.length h
    rw [len_list] at this
    exact this
   have e : (⟨#[]⟩ : ByteArray).data.toList = [] := rfl
   rw [e]
   cases hb' : ((longerF c.toNat).data.toList == []) with
   | false => rfl
   | true => exact absurd (by simpa using hb') this
  have c8 : ((wrOkF Y M D ho mi S W J n (longerF ((((UInt8.toNat (Option.getD (GetElem?.getElem? f (Int.toNat (IntKind.i64.wrap ((i : Int) + 1)))) 0)) : Nat) : Int)))) == true) = true := by
   show (wrOkF Y M D ho mi S W J n (longerF ((((f[(IntKind.i64.wrap ((i : Int) + 1)).toNat]?).getD 0).toNat : Nat) : Int)) == true) = true
   rw [e6, k2]; rfl
  have hne : (s ++ wrF Y M D ho mi S W J n (longerF c.toNat)).size ≠ 0 := by rw [ByteArray.size_append]; omega
  unfold wrSt at hq
  rw [if_neg hne] at hq
  unfold wrSt
  by_cases h0 : s.size = 0
  ·rw [if_pos h0]
   refine wx0_lon Y M D ho mi S W J n f i (c1 (by omega)) (c2 hx) (c3n hx) (c4n hi hb) c5 c6 c7 c8 (by rw [e5]; exact new_text _ k3 (by omega)) ?_
   rw [post0 Y M D ho mi S W J n f _ _ _ _ rfl, e5, e3]
   have := ba_nil h0
   subst this
   rw [ByteArray.empty_append] at hq
   exact hq
  ·rw [if_neg h0]
   refine wx1_lon Y M D ho mi S W J n f i s (c1 (by omega)) (c2 hx) (c3n hx) (c4n hi hb) c5 c6 c7 c8 (by rw [e5]; exact grow_text Y M D ho mi S W J s _ k3 hs) ?_
   rw [post1 Y M D ho mi S W J n f _ _ s _ _ rfl, e5, e3]
   exact hq
def wxI (tot : ByteArray) (m : Nat) (st : St) : Prop := ∃ (i : Nat) (s : ByteArray), st = wrSt Y M D ho mi S W J n f s i ∧ i ≤ f.size ∧ s ++ wrL (dir2F Y M D ho mi S W J n) (f.data.toList.drop i) = tot ∧ wrK (dir2Ok Y M D ho mi S W J n) (f.data.toList.drop i) = true ∧ m = f.size - i
theorem wx_loop (tot : ByteArray) (hb : f.size ≤ 1000000000) (ht : tot.size ≤ 1000000000) (hw : wrL (dir2F Y M D ho mi S W J n) f.data.toList = tot) (hk : wrK (dir2Ok Y M D ho mi S W J n) f.data.toList = true) :
  Tr (withFns cx0 laU lpV) 12 68 (.loop wrB) (wr0 Y M D ho mi S W J n f 0) fun e s => e = .exit 0 ∧ s = wrSt Y M D ho mi S W J n f tot f.size := by
 refine Tr.loop (wxI (f := f) Y M D ho mi S W J n tot) ?_ (m := f.size - 0) ⟨0, ByteArray.empty, rfl, by omega, by rw [ByteArray.empty_append]; exact hw, hk, rfl⟩
 rintro m st ⟨i, s, rfl, hi, hs, hk, rfl⟩
 cases hd : f.data.toList.drop i with
 | nil =>
  have hl : f.size ≤ i := by
   have := congrArg List.length hd
   simp only [List.length_drop, List.length_nil, len_list] at this
   omega
  have hie : i = f.size := by omega
  subst hie
  rw [hd] at hs
  have hs' : s = tot := by rw [← hs]; exact ByteArray.append_empty.symm
  subst hs'
  unfold wrSt
  by_cases h0 : s.size = 0
  ·rw [if_pos h0]
   exact wx0_out Y M D ho mi S W J n f _ (c1n hl) ⟨rfl, rfl⟩
  ·rw [if_neg h0]
   exact wx1_out Y M D ho mi S W J n f _ s (c1n hl) ⟨rfl, rfl⟩
 | cons x r =>
  obtain ⟨hx, hr, hlt⟩ := drop_cons hd
  rw [len_list] at hlt
  rw [← at_list] at hx
  rw [hd] at hs hk
  have plain : x ≠ 37 ∨ i + 1 = f.size → wrL (dir2F Y M D ho mi S W J n) (x :: r) = ⟨#[x]⟩ ++ wrL (dir2F Y M D ho mi S W J n) r := by
   intro h
   cases r with
   | nil => exact ByteArray.append_empty.symm
   | cons c r2 =>
    have h37 : x ≠ 37 := by
     rcases h with h | h
     ·exact h
     ·have := congrArg List.length hr
      simp only [List.length_drop, List.length_cons, len_list] at this
      omega
    simp only [wrL, if_neg h37]
  have plainK : x ≠ 37 ∨ i + 1 = f.size → wrK (dir2Ok Y M D ho mi S W J n) r = true := by
   intro h
   cases r with
   | nil => rfl
   | cons c r2 =>
    have h37 : x ≠ 37 := by
     rcases h with h | h
     ·exact h
     ·have := congrArg List.length hr
      simp only [List.length_drop, List.length_cons, len_list] at this
      omega
    simpa only [wrK, if_neg h37] using hk
  have next : x ≠ 37 ∨ i + 1 = f.size → ∃ m', m' < f.size - i ∧ wxI (f := f) Y M D ho mi S W J n tot m' (wrSt Y M D ho mi S W J n f (s ++ ⟨#[x]⟩) (i + 1)) := by
   intro h
   refine ⟨f.size - (i + 1), by omega, i + 1, s ++ ⟨#[x]⟩, rfl, by omega, ?_, by rw [hr]; exact plainK h, rfl⟩
   rw [hr, ByteArray.append_assoc, ← plain h]
   exact hs
  have sz : x ≠ 37 ∨ i + 1 = f.size → s.size + 1 ≤ 1000000000 := by
   intro h
   rw [plain h] at hs
   have := congrArg ByteArray.size hs
   rw [ByteArray.size_append, ByteArray.size_append] at this
   have e : (⟨#[x]⟩ : ByteArray).size = 1 := rfl
   omega
  by_cases h37 : x = 37
  ·subst h37
   by_cases hl : i + 1 = f.size
   ·exact wx_last Y M D ho mi S W J n hb hl hx (sz (.inr hl)) (next (.inr hl))
   ·cases r with
    | nil =>
     have := congrArg List.length hr
     simp only [List.length_drop, List.length_nil, len_list] at this
     omega
    | cons c r2 =>
     obtain ⟨hc, hr2, hlt2⟩ := drop_cons hr
     rw [len_list] at hlt2
     rw [← at_list] at hc
     have hw2 : wrL (dir2F Y M D ho mi S W J n) (37 :: c :: r2) = dir2F Y M D ho mi S W J n c ++ wrL (dir2F Y M D ho mi S W J n) r2 := by simp only [wrL, if_true]
     have hk2 : dir2Ok Y M D ho mi S W J n c = true ∧ wrK (dir2Ok Y M D ho mi S W J n) r2 = true := by simpa only [wrK, if_true, Bool.and_eq_true] using hk
     rw [hw2] at hs
     have hsz : s.size + (dir2F Y M D ho mi S W J n c).size ≤ 1000000000 := by
      have := congrArg ByteArray.size hs
      rw [ByteArray.size_append, ByteArray.size_append] at this
      omega
     refine wx_dir Y M D ho mi S W J n hb hlt2 hx hc hk2.1 hsz ⟨f.size - (i + 2), by omega, i + 2, s ++ dir2F Y M D ho mi S W J n c, rfl, by omega, ?_, by rw [hr2]; exact hk2.2, rfl⟩
     rw [hr2, ByteArray.append_assoc]
     exact hs
  ·exact wx_plain Y M D ho mi S W J n hb hlt hx h37 (sz (.inl h37)) (next (.inl h37))
theorem wx1_fin (Y M D ho mi : Int) (S : Nat) (W J n : Int) (f : ByteArray) (i : Int) (s : ByteArray) {R : Value → Hp → Nat → Prop} (h1 : ((!(Nat.beq s.size 0)) && strOk (wrHp Y M D ho mi S W J s) 13 0 s.size) = true) (hq : ∀ H nx, R (oneOf [(Value.string (strAt (wrHp Y M D ho mi S W J s) 13 0 s.size))]) H nx) : TrL (withFns cx0 laU lpV) 12 68 ((bodyOf Tryz.f38).drop 4) (wr1 Y M D ho mi S W J n f i s) (fun e s2 => (match e with | .exit _ => False | _ => True) ∧ ∃ l, evResults (withFns cx0 laU lpV) s2.tm s2.H Tryz.f38.results.toList = some l ∧ R (oneOf l) s2.H s2.nx) :=
 TrL.fin (hkW laU lpV) (CxOk.withFns cx_ok laU lpV) (withFns_intr laU_sound lpV_sound) (m := [true]) (bl := [(!(Nat.beq s.size 0)) && strOk (wrHp Y M D ho mi S W J s) 13 0 s.size]) (p := []) (k := 5) (n := 30) (vs := [(Value.string (strAt (wrHp Y M D ho mi S W J s) 13 0 s.size))]) (by kernel_rfl) (by kernel_rfl) (by kernel_rfl) (by kernel_rfl) (by kernel_rfl) (aC h1 aN) hq
def wxF (Y M D ho mi : Int) (S : Nat) (W J n : Int) (f : ByteArray) : ByteArray := wrL (dir2F Y M D ho mi S W J n) f.data.toList
def wxOkF (Y M D ho mi : Int) (S : Nat) (W J n : Int) (f : ByteArray) : Bool := wrK (dir2Ok Y M D ho mi S W J n) f.data.toList && decide (f.size ≤ 1000000000) && decide ((wxF Y M D ho mi S W J n f).size ≤ 1000000000)
theorem wx_tr (f : ByteArray) (hok : wxOkF Y M D ho mi S W J n f = true) :
  Tr (withFns cx0 laU lpV) 12 68 code38 (entry Tryz.f38 #[.agg #[.int .i64 Y, .int .i64 M, .int .i64 D, .int .i64 ho, .int .i64 mi, .float .f64 S, .int .i64 W, .int .i64 J], .int .i64 n, .string f] H0 12) fun x s => (match x with | .exit _ => False | _ => True) ∧ ∃ l, evResults (withFns cx0 laU lpV) s.tm s.H Tryz.f38.results.toList = some l ∧ oneOf l = .string (wxF Y M D ho mi S W J n f) := by
 unfold wxOkF at hok
 simp only [Bool.and_eq_true, decide_eq_true_eq] at hok
 obtain ⟨⟨hk, hb⟩, ht⟩ := hok
 refine Tr.of_spine code38 ?_
 show TrL _ 12 68 (bodyOf Tryz.f38) _ _
 rw [wr_pieces]
 refine wx_in Y M D ho mi S W J n f ?_
 refine Tr.block (wx_loop Y M D ho mi S W J n (wxF Y M D ho mi S W J n f) hb ht rfl hk) ?_ ?_
 ·rintro s1 ⟨_, rfl⟩
  unfold wrSt
  by_cases h0 : (wxF Y M D ho mi S W J n f).size = 0
  ·rw [if_pos h0]
   refine wx0_fin Y M D ho mi S W J n f _ (R := fun v _ _ => v = .string (wxF Y M D ho mi S W J n f)) (fun H nx => ?_)
   show Value.string _ = _
   rw [ba_nil h0]
   rfl
  ·rw [if_neg h0]
   have hst := strAt_row (H := wrHp Y M D ho mi S W J (wxF Y M D ho mi S W J n f)) (b := 13) (ob := mkCells 13 5 1 false (bytesV (wxF Y M D ho mi S W J n f))) (s := wxF Y M D ho mi S W J n f) (by kernel_rfl) rfl
   refine wx1_fin Y M D ho mi S W J n f _ _ (R := fun v _ _ => v = .string (wxF Y M D ho mi S W J n f)) ?_ (fun H nx => ?_)
   ·rw [hst.2]
    cases hz : Nat.beq (wxF Y M D ho mi S W J n f).size 0 with
    | false => rfl
    | true => exact absurd (Nat.eq_of_beq_eq_true hz) h0
   ·show Value.string _ = _
    rw [hst.1]
 ·rintro e s1 ⟨rfl, _⟩ hne
  exact absurd rfl hne
end
def wxVal (args : Array Value) : Option Value := match args.toList with
 | [.agg a0_, .int .i64 n, .string f] => match a0_.toList with | [.int .i64 Y, .int .i64 M, .int .i64 D, .int .i64 ho, .int .i64 mi, .float .f64 S, .int .i64 W, .int .i64 J] => some (.string (wxF Y M D ho mi S W J n f)) | _ => none
 | _ => none
def wxCond (args : Array Value) : Bool := match args.toList with
 | [.agg a0_, .int .i64 n, .string f] => match a0_.toList with | [.int .i64 Y, .int .i64 M, .int .i64 D, .int .i64 ho, .int .i64 mi, .float .f64 S, .int .i64 W, .int .i64 J] => (wxOkF Y M D ho mi S W J n f == true) | _ => false
 | _ => false
def wxA : AFn := { f := 38, val := wxVal, ok := wxCond }
theorem wx_sound : PSound cx0 wxA.pfn := psound_tr laU_sound lpV_sound fun args v h => by
 obtain ⟨hv, hk⟩ := afn_some h
 replace hv : wxVal args = some v := hv
 replace hk : wxCond args = true := hk
 unfold wxVal at hv
 split at hv
 ·rename_i a0_ n f hx
  have ha := args_list hx
  subst ha
  split at hv
  ·rename_i Y M D ho mi S W J hx0
   have ha0 := args_list hx0
   subst ha0
   cases hv
   have hok : wxOkF Y M D ho mi S W J n f = true := by simpa [wxCond] using hk
   exact ⟨rfl, rfl, Tryz.f38, code38, by kernel_rfl, by kernel_rfl, wx_tr Y M D ho mi S W J n f hok⟩
  ·cases hv
 ·cases hv
def laX : List AFn := wxA :: wholA :: normA :: laV
theorem laX_sound : ∀ e ∈ laX, PSound cx0 e.pfn := asound_cons wx_sound (asound_cons whol_sound (asound_cons norm_sound laV_sound))
def rfmt0F (Y M D ho mi : Int) (S : Nat) (W J : Int) (f : ByteArray) : ByteArray := (bif (!(whol1F Y M D ho mi S W J)) then (ByteArray.mk #[]) else (wxF Y M D ho mi S W J (whol0F Y M D ho mi S W J) f))
def rfmt1F (Y M D ho mi : Int) (S : Nat) (W J : Int) (f : ByteArray) : Int := (bif (!(whol1F Y M D ho mi S W J)) then 110 else 0)
def rfmtOkF (Y M D ho mi : Int) (S : Nat) (W J : Int) (f : ByteArray) : Bool := (((wholOkF Y M D ho mi S W J)) && (bif (!(whol1F Y M D ho mi S W J)) then true else (((wxOkF Y M D ho mi S W J (whol0F Y M D ho mi S W J) f)) && true)))
theorem rfmt_ev (Y M D ho mi : Int) (S : Nat) (W J : Int) (f : ByteArray) (hok : rfmtOkF Y M D ho mi S W J f = true) : ∃ H' nx', evFunc (withFns cx0 laX lpV) 30 10 #[tmA Y M D ho mi S W J, .string f] H0 12 = some ((Value.tuple #[(Value.string (rfmt0F Y M D ho mi S W J f)), (Value.int IntKind.i64 (rfmt1F Y M D ho mi S W J f))]), H', nx') := by
 unfold rfmtOkF at hok
 obtain ⟨c0_, hok⟩ := aO hok
 cases c1_ : ((!(whol1F Y M D ho mi S W J))) with
 | true =>
  unfold rfmt0F rfmt1F
  try simp only [c0_, c1_, cond_true, cond_false]
  exact oS ((hkW laX lpV)) (m := [true, true]) (p := [true]) (aC (bT c0_) (aC (bT c1_) aN))
 | false =>
  have c2_ : ((wxOkF Y M D ho mi S W J (whol0F Y M D ho mi S W J) f)) = true := by
   simp only [c0_, c1_, Bool.and_eq_true, Bool.not_eq_true', cond_true, cond_false] at hok
   first | exact hok.1 | (simp only [Bool.not_eq_true']; exact hok.1)
  replace hok := by
   simp only [c0_, c1_, c2_, Bool.not_true, Bool.not_false, Bool.true_and, cond_true, cond_false] at hok
   exact hok
  unfold rfmt0F rfmt1F
  try simp only [c0_, c1_, c2_, cond_true, cond_false]
  exact oS ((hkW laX lpV)) (m := [true, true, true]) (p := [false]) (aC (bT c0_) (aC (bF c1_) (aC (bT c2_) aN)))
def rfmtV (args : Array Value) : Option Value := match args.toList with
 | [.agg a0_, .string f] => match a0_.toList with | [.int .i64 Y, .int .i64 M, .int .i64 D, .int .i64 ho, .int .i64 mi, .float .f64 S, .int .i64 W, .int .i64 J] => some (Value.tuple #[(Value.string (rfmt0F Y M D ho mi S W J f)), (Value.int IntKind.i64 (rfmt1F Y M D ho mi S W J f))]) | _ => none
 | _ => none
def rfmtK (args : Array Value) : Bool := match args.toList with
 | [.agg a0_, .string f] => match a0_.toList with | [.int .i64 Y, .int .i64 M, .int .i64 D, .int .i64 ho, .int .i64 mi, .float .f64 S, .int .i64 W, .int .i64 J] => (rfmtOkF Y M D ho mi S W J f == true) | _ => false
 | _ => false
def rfmtA : AFn := { f := 10, val := rfmtV, ok := rfmtK }
theorem rfmt_sound : PSound cx0 rfmtA.pfn := psound_startW laX_sound lpV_sound fun args v h => by
 obtain ⟨hv, hk⟩ := afn_some h
 replace hv : rfmtV args = some v := hv
 replace hk : rfmtK args = true := hk
 unfold rfmtV at hv
 split at hv
 ·rename_i a0_ f hx
  have ha := args_list hx
  subst ha
  split at hv
  ·rename_i Y M D ho mi S W J hx0
   have ha0 := args_list hx0
   subst ha0
   cases hv
   have hok : rfmtOkF Y M D ho mi S W J f = true := by simpa [rfmtK] using hk
   exact ⟨rfl, rfl, 30, rfmt_ev Y M D ho mi S W J f hok⟩
  ·cases hv
 ·cases hv
end Go.Proofs.YthopphfehgdocaaGreatDoor
