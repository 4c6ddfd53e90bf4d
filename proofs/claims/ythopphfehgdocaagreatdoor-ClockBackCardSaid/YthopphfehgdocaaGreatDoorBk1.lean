import Derived.Test.YthopphfehgdocaaGreatDoorOrd3
import Derived.Test.YthopphfehgdocaaGreatDoorLibT
namespace Go.Ev
/-- Bools of a number's binary digits, the lowest first -/
def bitsN : Nat → Nat → List Bool
  | 0, _ => []
  | k + 1, n => Nat.beq (Nat.mod n 2) 1 :: bitsN k (Nat.div n 2)
end Go.Ev
namespace Go.Proofs.YthopphfehgdocaaGreatDoor
open Go Go.RowKit Go.Ev Go.Proofs Go.Shelf
set_option linter.unusedSimpArgs false
set_option linter.unusedVariables false
/-! ### What Parse calls, by contract -/
def dOkF (y m d : Int) : Bool := decide (-9999 ≤ y) && (decide (y ≤ 9999) && (decide (0 ≤ m) && (decide (m ≤ 11) && (decide (1 ≤ d) && decide (d ≤ lenF y m)))))
def cd2V (args : Array Value) : Option Value := match args.toList with
  | [.int .i64 y, .int .i64 m, .int .i64 d] => some (.tuple #[.int .i64 (numdF y m d), .int .i64 0])
  | _ => none
def cd2K (args : Array Value) : Bool := match args.toList with
  | [.int .i64 y, .int .i64 m, .int .i64 d] => dOkF y m d == true
  | _ => false
def cd2A : AFn := { f := 77, val := cd2V, ok := cd2K }
theorem cd2_sound : PSound cx0 cd2A.pfn := psound_narrow (e := cdayA.pfn) rfl (fun args v h => by
  obtain ⟨hv, hk⟩ := afn_some h
  replace hv : cd2V args = some v := hv
  replace hk : cd2K args = true := hk
  unfold cd2V at hv
  split at hv
  · rename_i y m d hx
    have ha := args_list hx
    subst ha
    cases hv
    have hok : dOkF y m d = true := by simpa [cd2K] using hk
    unfold dOkF at hok
    simp only [Bool.and_eq_true, decide_eq_true_eq] at hok
    obtain ⟨a1, a2, a3, a4, a5, a6⟩ := hok
    have l := lenF_pos y m a3 a4
    have c1 : decide (y < -9999) = false := decide_eq_false (by omega)
    have c2 : decide (y > 9999) = false := decide_eq_false (by omega)
    have c3 : decide (d < 1) = false := decide_eq_false (by omega)
    have c4 : decide (d > lenF y m) = false := decide_eq_false (by omega)
    refine AFn.p_of ?_ ?_
    · show some (Value.tuple #[.int .i64 (cday0F y m d), .int .i64 (cday1F y m d)]) = _
      simp only [cday0F, cday1F, c1, c2, c3, c4, cond_false]
    · show (cdayOkF y m d == true) = true
      rw [cdayOk_all a3 a4 (by omega)]; rfl
  · cases hv) cday_sound
def jOkF (Y M D ho mi : Int) (S : Nat) : Bool := (S == Clk.fo (f2i .f64 S)) && (decide (-9999 ≤ Y) && (decide (Y ≤ 9999) && (decide (0 ≤ M) && (decide (M ≤ 11) && (decide (1 ≤ D) && (decide (D ≤ 31) && (decide (0 ≤ ho) && (decide (ho ≤ 23) && (decide (0 ≤ mi) && (decide (mi ≤ 59) && (decide (0 ≤ f2i .f64 S) && (decide (f2i .f64 S ≤ 59) && (decide (-377705116800 ≤ nsF Y M D ho mi S) && decide (nsF Y M D ho mi S ≤ 253402300799))))))))))))))
def cj2V (args : Array Value) : Option Value := match args.toList with
  | [.agg a] => match a.toList with
    | [.int .i64 Y, .int .i64 M, .int .i64 D, .int .i64 ho, .int .i64 mi, .float .f64 S, .int .i64 W, .int .i64 J] => some (.tuple #[.int .i64 (nsF Y M D ho mi S), .int .i64 0])
    | _ => none
  | _ => none
def cj2K (args : Array Value) : Bool := match args.toList with
  | [.agg a] => match a.toList with
    | [.int .i64 Y, .int .i64 M, .int .i64 D, .int .i64 ho, .int .i64 mi, .float .f64 S, .int .i64 W, .int .i64 J] => jOkF Y M D ho mi S == true
    | _ => false
  | _ => false
def cj2A : AFn := { f := 63, val := cj2V, ok := cj2K }
theorem cj2_sound : PSound cx0 cj2A.pfn := psound_narrow (e := cjoinA.pfn) rfl (fun args v h => by
  obtain ⟨hv, hk⟩ := afn_some h
  replace hv : cj2V args = some v := hv
  replace hk : cj2K args = true := hk
  unfold cj2V at hv
  split at hv
  · rename_i a hx
    have ha := args_list hx
    subst ha
    split at hv
    · rename_i Y M D ho mi S W J hx2
      have ha2 := args_list hx2
      subst ha2
      cases hv
      have hok : jOkF Y M D ho mi S = true := by simpa [cj2K] using hk
      unfold jOkF at hok
      simp only [Bool.and_eq_true, decide_eq_true_eq, beq_iff_eq] at hok
      obtain ⟨hS, b1, b2, b3, b4, b5, b6, b7, b8, b9, b10, b11, b12, b13, b14⟩ := hok
      unfold nsF at b13 b14 ⊢
      generalize f2i .f64 S = s at hS b11 b12 b13 b14 ⊢
      subst hS
      obtain ⟨j1, j2, j3⟩ := cjoin_val Y M D ho mi s W J b1 b2 b3 b4 b5 b6 b7 b8 b9 b10 b11 b12 b13 b14
      refine AFn.p_of ?_ ?_
      · show some (Value.tuple #[.int .i64 (cjoin0F Y M D ho mi (Clk.fo s) W J), .int .i64 (cjoin1F Y M D ho mi (Clk.fo s) W J)]) = _
        rw [j2, j3]
      · show (cjoinOkF Y M D ho mi (Clk.fo s) W J == true) = true
        rw [j1]; rfl
    · cases hv
  · cases hv) cjoin_sound
/-- strings.TrimLeft with the blanks -/
def isBl (c : UInt8) : Bool := match Nat.ble c.toNat 32 with
  | false => false
  | true => Nat.beq c.toNat 32 || (Nat.beq c.toNat 9 || (Nat.beq c.toNat 10 || (Nat.beq c.toNat 11 || (Nat.beq c.toNat 12 || Nat.beq c.toNat 13))))
def tlL : List UInt8 → List UInt8
  | [] => []
  | c :: r => match isBl c with
    | true => tlL r
    | false => c :: r
def blanksB : ByteArray := ⟨#[9, 10, 11, 12, 13, 32]⟩
theorem isBl_eq (c : UInt8) : [(9 : UInt8), 10, 11, 12, 13, 32].contains c = isBl c := by
  have h : ∀ k : Fin 256, [(9 : UInt8), 10, 11, 12, 13, 32].contains (UInt8.ofNat k.val) = isBl (UInt8.ofNat k.val) := by decide +kernel
  have := h ⟨c.toNat, c.toNat_lt⟩
  simpa using this
theorem tlL_eq : ∀ l : List UInt8, Lib.trimLeftS l [9, 10, 11, 12, 13, 32] = tlL l
  | [] => rfl
  | c :: r => by
    have ih := tlL_eq r
    unfold Lib.trimLeftS at ih ⊢
    rw [List.dropWhile_cons, isBl_eq]
    unfold tlL
    cases h : isBl c with
    | true => simpa using ih
    | false => simp
def tlV (args : Array Value) : Option Value := match args.toList with
  | [.string s, .string cs] => if cs.data.toList = blanksB.data.toList then some (.string ⟨(tlL s.data.toList).toArray⟩) else none
  | _ => none
def tlE : PFn := { f := 183, c := 0, p := tlV }
theorem tl_sound : PSound cx0 tlE := fun i => pureI_sound fun args args' v B w E hW hB har h => by
  have hv : tlV args = some v := h
  unfold tlV at hv
  split at hv
  · rename_i s cs hx
    have ha := args_list hx
    subst ha
    split at hv
    · rename_i hcs
      have hc : cs = blanksB := by
        apply ByteArray.ext
        exact Array.toList_inj.1 hcs
      subst hc
      cases hv
      have he : args' = #[.string s, .string blanksB] := by
        refine Array.ext har.1.symm fun k h1 h2 => ?_
        have p : (#[Value.string s, .string blanksB])[k]? = some (#[Value.string s, .string blanksB])[k] := Array.getElem?_eq_getElem h2
        have q : args'[k]? = some args'[k] := Array.getElem?_eq_getElem h1
        exact (har.2 k _ _ p q).shut_eq 60 (closed_all (a := #[Value.string s, .string blanksB]) rfl k _ p)
      subst he
      refine (Tryz.strings_TrimLeft s blanksB w (by decide) (ascii_of_all (by decide +kernel))).mono ?_
      rintro e w' ⟨rfl, hb⟩
      have e2 : Lib.trimLeftS s.data.toList blanksB.data.toList = tlL s.data.toList := tlL_eq _
      rw [e2]
      exact ⟨rfl, rfl, hb⟩
    · cases hv
  · cases hv
/-- strings.EqualFold of ASCII texts -/
def lowN (n : Nat) : Nat := match Nat.ble 65 n with
  | false => n
  | true => match Nat.ble n 90 with
    | true => n + 32
    | false => n
def efL : List UInt8 → List UInt8 → Bool
  | [], [] => true
  | x :: s, y :: t => match Nat.beq (lowN x.toNat) (lowN y.toNat) with
    | true => efL s t
    | false => false
  | _, _ => false
def ascF (s : ByteArray) : Bool := s.data.toList.all fun c => decide (c.toNat < 128)
def efV (args : Array Value) : Option Value := match args.toList with
  | [.string s, .string t] => some (.bool (efL s.data.toList t.data.toList))
  | _ => none
def efK (args : Array Value) : Bool := match args.toList with
  | [.string s, .string t] => (ascF s && (ascF t && decide (s.size < 1000))) == true
  | _ => false
def efA : AFn := { f := 210, val := efV, ok := efK }
theorem fold_eq (x y : UInt8) (hx : x.toNat < 128) (hy : y.toNat < 128) : Lib.foldEq x y = Nat.beq (lowN x.toNat) (lowN y.toNat) := by
  have h : ∀ a b : Fin 128, Lib.foldEq (UInt8.ofNat a.val) (UInt8.ofNat b.val) = Nat.beq (lowN (UInt8.ofNat a.val).toNat) (lowN (UInt8.ofNat b.val).toNat) := by decide +kernel
  have := h ⟨x.toNat, hx⟩ ⟨y.toNat, hy⟩
  simpa using this
theorem ef_eq : ∀ s t : List UInt8, (∀ c ∈ s, c.toNat < 128) → (∀ c ∈ t, c.toNat < 128) → Lib.equalFold s t = efL s t
  | [], [], _, _ => rfl
  | [], _ :: _, _, _ => rfl
  | _ :: _, [], _, _ => rfl
  | x :: s, y :: t, hs, ht => by
    have e := fold_eq x y (hs x List.mem_cons_self) (ht y List.mem_cons_self)
    have ih := ef_eq s t (fun c h => hs c (List.mem_cons_of_mem _ h)) (fun c h => ht c (List.mem_cons_of_mem _ h))
    unfold Lib.equalFold efL
    rw [e, ih]
    cases Nat.beq (lowN x.toNat) (lowN y.toNat) <;> rfl
theorem ef_sound : PSound cx0 efA.pfn := fun i => pureI_sound fun args args' v B w E hW hB har h => by
  obtain ⟨hv, hk⟩ := afn_some h
  replace hv : efV args = some v := hv
  replace hk : efK args = true := hk
  unfold efV at hv
  split at hv
  · rename_i s t hx
    have ha := args_list hx
    subst ha
    cases hv
    have hok : (ascF s && (ascF t && decide (s.size < 1000))) = true := by simpa [efK] using hk
    simp only [Bool.and_eq_true, decide_eq_true_eq] at hok
    obtain ⟨a1, a2, a3⟩ := hok
    have b1 : ∀ c ∈ s.data.toList, c.toNat < 128 := fun c hc => of_decide_eq_true (List.all_eq_true.1 a1 c hc)
    have b2 : ∀ c ∈ t.data.toList, c.toNat < 128 := fun c hc => of_decide_eq_true (List.all_eq_true.1 a2 c hc)
    have he : args' = #[.string s, .string t] := by
      refine Array.ext har.1.symm fun k h1 h2 => ?_
      have p : (#[Value.string s, .string t])[k]? = some (#[Value.string s, .string t])[k] := Array.getElem?_eq_getElem h2
      have q : args'[k]? = some args'[k] := Array.getElem?_eq_getElem h1
      exact (har.2 k _ _ p q).shut_eq 60 (closed_all (a := #[Value.string s, .string t]) rfl k _ p)
    subst he
    refine (Tryz.strings_EqualFold s t w (by omega) (fun j b hb => b1 b (List.mem_of_getElem? hb)) (fun j b hb => b2 b (List.mem_of_getElem? hb))).mono ?_
    rintro e w' ⟨rfl, rfl⟩
    rw [ef_eq _ _ b1 b2]
    exact ⟨rfl, rfl, Below.refl _ _⟩
  · cases hv
/-- a digit, as code of which the kernel sees that it is no blank -/
def dkF (k : Fin 10) : UInt8 := ⟨⟨⟨k.val + 48, by omega⟩⟩⟩
def dgv (a : Fin 10) : Int := IntKind.wrap IntKind.i64 (IntKind.wrap IntKind.u8 ((((UInt8.toNat (dkF a)) : Nat) : Int) - 48))
/-- a digit more -/
def nxt (x : Int) (a : Fin 10) : Int := IntKind.wrap IntKind.i64 (IntKind.wrap IntKind.i64 (10 * x) + dgv a)
theorem dk_nat (a : Fin 10) : (dkF a).toNat = a.val + 48 := rfl
theorem dgv_eq (a : Fin 10) : dgv a = a.val := by
  unfold dgv
  rw [dk_nat, IntKind.wrap_u8, IntKind.wrap_i64]
  omega
theorem nxt_eq {x : Int} (a : Fin 10) (h0 : 0 ≤ x) (h1 : x ≤ 1000000000000) : nxt x a = 10 * x + a.val := by
  unfold nxt
  rw [dgv_eq, IntKind.wrap_i64, IntKind.wrap_i64]
  omega
def dge (a : Fin 10) : Bool := decide ((((UInt8.toNat (dkF a)) : Nat) : Int) ≥ 48) == true
def dle (a : Fin 10) : Bool := decide ((((UInt8.toNat (dkF a)) : Nat) : Int) ≤ 57) == true
theorem dge_eq (a : Fin 10) : dge a = true := by
  unfold dge
  rw [dk_nat, decide_eq_true (by omega)]; rfl
theorem dle_eq (a : Fin 10) : dle a = true := by
  unfold dle
  rw [dk_nat, decide_eq_true (by omega)]; rfl
/-- a part of a text, as a list's -/
def sliceS (s : ByteArray) (l h : Nat) : ByteArray := ⟨⟨(s.data.toList.drop l).take (h - l)⟩⟩
theorem sliceS_eq (s : ByteArray) (l h : Nat) : sliceS s l h = s.extract l h := by
  apply ByteArray.ext
  rw [ByteArray.data_extract]
  apply Array.toList_inj.1
  rw [Array.toList_extract]
  simp [sliceS, List.extract_eq_take_drop]
def strCut (s : ByteArray) (lo hi : Option Value) : Option (Value × Bool) := match bnd hi s.size s.size with
  | none => none
  | some (h, c1) => match bnd lo 0 h with
    | none => none
    | some (l, c2) => some (.string (sliceS s l h), c1 && c2)
/-- the hook, loads left to the evaluator itself, texts cut as lists -/
noncomputable def hkP : Hook := fun o ρ id H p => match o.op with
  | .load _ _ => none
  | .slice t x lo hi none => match cx0.und t, ρ x with
    | some .string, .string s => match strCut s (lo.map ρ) (hi.map ρ) with
      | some (v, b) => some (v, H, p, b)
      | none => none
    | _, _ => none
  | _ => hk o ρ id H p
theorem hook_slice {cx : Cx} {ext : FuncId → Array Value → Option (Value × Bool)} {o : Oper} {ρ : Operand → Value} {t : TypeId} {x : Operand} {lo hi : Option Operand} {s : ByteArray} (ho : o.op = .slice t x lo hi none) (h1 : cx.und t = some .string) (h2 : ρ x = .string s) : hook0 cx ext o ρ = strCut s (lo.map ρ) (hi.map ρ) := by
  unfold hook0 strCut
  rw [ho]
  simp only [h1, h2, sliceS_eq]
  rfl
theorem hook_of0 {cx : Cx} {ext : FuncId → Array Value → Option (Value × Bool)} {o : Oper} {ρ : Operand → Value} {v : Value} {b : Bool} {id : Nat} {H : Hp} {p : List Bool} (h : hook0 cx ext o ρ = some (v, b)) : hook cx ext o ρ id H p = some (v, H, p, b) := by
  unfold hook
  rw [h]
theorem hkP_ok {cx : Cx} (h : HookOk cx hk) : HookOk cx hkP := by
  refine ⟨fun o ρ id H p v H' p' e => h.1 o ρ id H p v H' p' ?_, h.2⟩
  unfold hkP at e
  split at e
  · cases e
  · rename_i t x lo hi ho
    split at e
    · rename_i s h1 h2
      have q := hook_slice (ext := ext) ho h1 h2
      cases e1 : strCut s (lo.map ρ) (hi.map ρ) with
      | none => rw [e1] at e; cases e
      | some a =>
        obtain ⟨v1, b1⟩ := a
        rw [e1] at e q
        cases e
        exact hook_of0 q
    · cases e
  · exact e
def laP : List AFn := [csp3A, cd2A, cj2A, efA]
theorem laP_sound : ∀ e ∈ laP, PSound cx0 e.pfn := asound_cons csp3_sound (asound_cons cd2_sound (asound_cons cj2_sound (asound_cons ef_sound asound_nil)))
def lpP : List PFn := [tlE, cdateE]
theorem lpP_sound : ∀ e ∈ lpP, PSound cx0 e := psound_cons tl_sound (psound_cons cdate_sound psound_nil)
end Go.Proofs.YthopphfehgdocaaGreatDoor
