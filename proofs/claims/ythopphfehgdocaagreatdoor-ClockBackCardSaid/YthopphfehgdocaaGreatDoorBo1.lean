import Derived.Test.YthopphfehgdocaaGreatDoorRef3
import Derived.WalkKit
import Derived.RowKit3
import Derived.BigQuiet
import Derived.BigCall
import Derived.Laws.Externs
import Derived.Test.YthopphfehgdocaaGreatDoorDiv
import Derived.Test.YthopphfehgdocaaGreatDoorBf6
import Derived.Test.YthopphfehgdocaaGreatDoorBk3
import Derived.Test.YthopphfehgdocaaGreatDoorStart
namespace Go.Proofs.YthopphfehgdocaaGreatDoor
open Go Go.RowKit
set_option linter.unusedVariables false
set_option linter.unusedSimpArgs false
theorem run_bits (b : Nat) (w : World) : (callFunc 152 #[.float .f64 b]).run Tryz.prog w = .ok (.value (.int .u64 b)) w := by
  rw [run_callFunc_extern Tryz.func152 (by kernel_rfl) (by kernel_rfl) (by kernel_rfl) (e := Extern.MathFloatBits.float64bits) (by kernel_rfl)]
  rfl
theorem sameF_calls (a : Nat) (w : World) : Calls Tryz.prog 53 #[.float .f64 a, .float .f64 a] w fun e w' => e = .returned (.bool true) ∧ Below w.heap.size w w' := by
  have h1 := run_bits a
  have c0 : ((a : Int) == a) = true := by simp
  have c1 : ((a : Int) != a) = false := by simp
  go_enter Tryz.func53, Tryz.ntmps53
  go_wp2
  go_ret
  exact ⟨by first | rfl | (simp; done) | (simp [*]; done), ⟨rfl, rfl, rfl, Nat.le_refl _, fun _ _ => rfl⟩⟩
end Go.Proofs.YthopphfehgdocaaGreatDoor
namespace Go.Proofs.YthopphfehgdocaaGreatDoor
open Go Go.RowKit Go.Ev
set_option linter.unusedVariables false
set_option linter.unusedSimpArgs false
/-- ref02.Same of a number and itself -/
def sm2F (a b : Nat) : Bool := decide (a = b)
def smV (args : Array Value) : Option Value := match args.toList with
  | [.float .f64 a, .float .f64 b] => some (.bool true)
  | _ => none
def smK (args : Array Value) : Bool := match args.toList with
  | [.float .f64 a, .float .f64 b] => sm2F a b == true
  | _ => false
def smA : AFn := { f := 53, val := smV, ok := smK }
theorem sm_sound : PSound cx0 smA.pfn := fun i => pureI_sound fun args args' v B w E hW hB har h => by
  obtain ⟨hv, hk⟩ := afn_some h
  replace hv : smV args = some v := hv
  replace hk : smK args = true := hk
  unfold smV at hv
  split at hv
  · rename_i a b hx
    have ha := args_list hx
    subst ha
    cases hv
    have hok : sm2F a b = true := by simpa [smK] using hk
    have e := of_decide_eq_true hok
    subst e
    have he : args' = #[.float .f64 a, .float .f64 a] := by
      refine Array.ext har.1.symm fun k h1 h2 => ?_
      have p : (#[Value.float .f64 a, .float .f64 a])[k]? = some (#[Value.float .f64 a, .float .f64 a])[k] := Array.getElem?_eq_getElem h2
      have q : args'[k]? = some args'[k] := Array.getElem?_eq_getElem h1
      exact (har.2 k _ _ p q).shut_eq 60 (closed_all (a := #[Value.float .f64 a, .float .f64 a]) rfl k _ p)
    subst he
    refine (sameF_calls a w).mono ?_
    rintro e w' ⟨rfl, hb⟩
    exact ⟨rfl, rfl, hb⟩
  · cases hv
end Go.Proofs.YthopphfehgdocaaGreatDoor
namespace Go.Proofs.YthopphfehgdocaaGreatDoor
open Go Go.RowKit Go.Ev
set_option linter.unusedVariables false
set_option linter.unusedSimpArgs false
theorem pr_int (a : Int) : pureRun Tryz.prog (Op.equalIn 9999 3 (.int .i64 a) (.int .i64 a)) = some true := by
  have e : pureRun Tryz.prog (Op.equalIn 9999 3 (.int .i64 a) (.int .i64 a)) = some (a == a) := by kernel_rfl
  rw [e, BEq.rfl]
theorem pr_float : pureRun Tryz.prog (Op.equalIn 9999 22 (.float .f64 0) (.float .f64 0)) = some true := by kernel_rfl
def fld24 : List Field := [{ name := "Year", type := 3, offset := 0, embedded := false, tag := "", pkgPath := "", byteOffset := 0 },
        { name := "Month", type := 3, offset := 1, embedded := false, tag := "", pkgPath := "", byteOffset := 8 },
        { name := "Day", type := 3, offset := 2, embedded := false, tag := "", pkgPath := "", byteOffset := 16 },
        { name := "Hour", type := 3, offset := 3, embedded := false, tag := "", pkgPath := "", byteOffset := 24 },
        { name := "Min", type := 3, offset := 4, embedded := false, tag := "", pkgPath := "", byteOffset := 32 },
        { name := "Sec", type := 22, offset := 5, embedded := false, tag := "", pkgPath := "", byteOffset := 40 },
        { name := "Wday", type := 3, offset := 6, embedded := false, tag := "", pkgPath := "", byteOffset := 48 },
        { name := "Yday", type := 3, offset := 7, embedded := false, tag := "", pkgPath := "", byteOffset := 56 }]
def eqB (d : Nat) (xs : Array Value) : Field → Option Bool × Unit → Sem (ForInStep (Option Bool × Unit)) := fun f _ => if f.name ≠ "_" then do
    let a ← part f.type xs f.offset
    let b ← part f.type xs f.offset
    let r ← Op.equalIn d f.type a b
    if (!r) = true then pure (ForInStep.done (some false, ())) else pure (ForInStep.yield (none, ()))
  else pure (ForInStep.yield (none, ()))
theorem eqB_step {P : Program} {d : Nat} {xs : Array Value} {f : Field} {rest : List Field} {v : Value} (hn : f.name ≠ "_") (h1 : pureRun P (part f.type xs f.offset) = some v) (h2 : pureRun P (Op.equalIn d f.type v v) = some true) :
    pureRun P (forIn (f :: rest) (none, ()) (eqB d xs)) = pureRun P (forIn rest (none, ()) (eqB d xs)) := by
  have e : pureRun P (eqB d xs f (none, ())) = some (ForInStep.yield (none, ())) := by
    unfold eqB
    rw [if_pos hn]
    simp only [pureRun_bind, h1, Option.bind_some, h2, Bool.not_true, Bool.false_eq_true, if_false, pureRun_pure]
  rw [List.forIn_cons, pureRun_bind, e]
  rfl
theorem pr_eq24 (Y M D h i W J : Int) : pureRun Tryz.prog (Op.equalIn 10000 24 (.agg #[.int .i64 Y, .int .i64 M, .int .i64 D, .int .i64 h, .int .i64 i, .float .f64 0, .int .i64 W, .int .i64 J]) (.agg #[.int .i64 Y, .int .i64 M, .int .i64 D, .int .i64 h, .int .i64 i, .float .f64 0, .int .i64 W, .int .i64 J])) = some true := by
  have u : pureRun Tryz.prog (underlying 24) = some (.struct fld24.toArray) := by kernel_rfl
  rw [show (10000 : Nat) = 9999 + 1 from rfl]
  unfold Op.equalIn
  rw [pureRun_bind, u]
  simp only [Option.bind_some]
  rw [pureRun_bind]
  have pg : pureRun Tryz.prog (program) = some Tryz.prog := by kernel_rfl
  rw [pg]
  simp only [Option.bind_some]
  have hp : Tryz.prog.stoodInHeld 24 = false := by kernel_rfl
  simp only [hp, Bool.false_eq_true, if_false]
  rw [pureRun_bind, ← Array.forIn_toList]
  show (pureRun Tryz.prog (forIn fld24 (none, ()) (eqB 9999 #[.int .i64 Y, .int .i64 M, .int .i64 D, .int .i64 h, .int .i64 i, .float .f64 0, .int .i64 W, .int .i64 J]))).bind _ = _
  unfold fld24
  rw [eqB_step (d := 9999) (f := ⟨"Year", 3, 0, false, "", "", 0⟩) (v := .int .i64 Y) (by decide) (by kernel_rfl) (pr_int Y), eqB_step (d := 9999) (f := ⟨"Month", 3, 1, false, "", "", 8⟩) (v := .int .i64 M) (by decide) (by kernel_rfl) (pr_int M), eqB_step (d := 9999) (f := ⟨"Day", 3, 2, false, "", "", 16⟩) (v := .int .i64 D) (by decide) (by kernel_rfl) (pr_int D), eqB_step (d := 9999) (f := ⟨"Hour", 3, 3, false, "", "", 24⟩) (v := .int .i64 h) (by decide) (by kernel_rfl) (pr_int h), eqB_step (d := 9999) (f := ⟨"Min", 3, 4, false, "", "", 32⟩) (v := .int .i64 i) (by decide) (by kernel_rfl) (pr_int i), eqB_step (d := 9999) (f := ⟨"Sec", 22, 5, false, "", "", 40⟩) (v := .float .f64 0) (by decide) (by kernel_rfl) pr_float, eqB_step (d := 9999) (f := ⟨"Wday", 3, 6, false, "", "", 48⟩) (v := .int .i64 W) (by decide) (by kernel_rfl) (pr_int W), eqB_step (d := 9999) (f := ⟨"Yday", 3, 7, false, "", "", 56⟩) (v := .int .i64 J) (by decide) (by kernel_rfl) (pr_int J)]
  rfl
end Go.Proofs.YthopphfehgdocaaGreatDoor
namespace Go.Proofs.YthopphfehgdocaaGreatDoor
open Go Go.RowKit Go.Ev
set_option linter.unusedVariables false
set_option linter.unusedSimpArgs false
theorem eql_run {ρ : Operand → Value} {o : Oper} {x y : Operand} {t2 : TypeId} {Y M D h i W J : Int} (ho : o.op = .binOp .eql 24 x y t2)
    (hx : ρ x = .agg #[.int .i64 Y, .int .i64 M, .int .i64 D, .int .i64 h, .int .i64 i, .float .f64 0, .int .i64 W, .int .i64 J]) (hy : ρ y = .agg #[.int .i64 Y, .int .i64 M, .int .i64 D, .int .i64 h, .int .i64 i, .float .f64 0, .int .i64 W, .int .i64 J]) :
    pureRun Tryz.prog (execOp ρ o) = some (.value (.bool true)) := by
  have pg : pureRun Tryz.prog (program) = some Tryz.prog := by kernel_rfl
  have hm : Tryz.prog.eqGuardType Tryz.prog.depth 24 = false := by kernel_rfl
  unfold execOp
  rw [ho]
  simp only [hx, hy]
  have g : ∀ a b : Array Value, pureRun Tryz.prog (eqGuard .eql 24 x y (.agg a) (.agg b)) = some () := fun a b => by
    simp [eqGuard, pureRun_bind, pg, hm, pureRun_pure]
  rw [pureRun_bind, pureRun_bind, g]
  simp only [Option.bind_some]
  simp only [binOp, Op.equal, Op.maxDepth]
  simp only [pureRun_bind, pureRun_map, pr_eq24, Option.bind_some, Option.map_some, pureRun_pure]
def sam8F (Y M D h i W J Y' M' D' h' i' W' J' : Int) : Bool := decide (Y = Y') && (decide (M = M') && (decide (D = D') && (decide (h = h') && (decide (i = i') && (decide (W = W') && decide (J = J'))))))
def eqA (a b : Array Value) : Option Bool := match a.toList, b.toList with
  | [.int .i64 Y, .int .i64 M, .int .i64 D, .int .i64 h, .int .i64 i, .float .f64 S, .int .i64 W, .int .i64 J], [.int .i64 Y', .int .i64 M', .int .i64 D', .int .i64 h', .int .i64 i', .float .f64 S', .int .i64 W', .int .i64 J'] => match Nat.beq S 0, Nat.beq S' 0 with
    | true, true => some (sam8F Y M D h i W J Y' M' D' h' i' W' J')
    | _, _ => none
  | _, _ => none
theorem eqA_some {a b : Array Value} (h : eqA a b = some true) : ∃ Y M D h i W J : Int, a = #[.int .i64 Y, .int .i64 M, .int .i64 D, .int .i64 h, .int .i64 i, .float .f64 0, .int .i64 W, .int .i64 J] ∧ b = #[.int .i64 Y, .int .i64 M, .int .i64 D, .int .i64 h, .int .i64 i, .float .f64 0, .int .i64 W, .int .i64 J] := by
  unfold eqA at h
  split at h
  · rename_i Y M D hh i S W J Y' M' D' h' i' S' W' J' e1 e2
    split at h
    · rename_i s1 s2
      have s1 := Nat.eq_of_beq_eq_true s1
      have s2 := Nat.eq_of_beq_eq_true s2
      subst s1 s2
      have h := Option.some.inj h
      unfold sam8F at h
      simp only [Bool.and_eq_true, decide_eq_true_eq] at h
      obtain ⟨rfl, rfl, rfl, rfl, rfl, rfl, rfl⟩ := h
      refine ⟨Y, M, D, hh, i, W, J, ?_, ?_⟩
      · exact Array.toList_inj.1 e1
      · exact Array.toList_inj.1 e2
    · cases h
  · cases h
/-- the hook, that knows when two times are equal -/
noncomputable def hkS : Hook := fun o ρ id H p => match o.op with
  | .binOp .eql t x y t2 => match Nat.beq t 24, ρ x, ρ y with
    | true, .agg a, .agg b => match eqA a b with
      | some c => some (.bool true, H, p, c)
      | none => hk o ρ id H p
    | _, _, _ => hk o ρ id H p
  | _ => hk o ρ id H p
theorem eql_ev {cx : Cx} (hP : cx.P = Tryz.prog) {ρ : Operand → Value} {o : Oper} {x y : Operand} {t2 : TypeId} {id : Nat} {H : Hp} {a b : Array Value} (ho : o.op = .binOp .eql 24 x y t2) (hx : ρ x = .agg a) (hy : ρ y = .agg b) (h : eqA a b = some true) : evOp cx ρ o id H = some (.val (.bool true), H) := by
  obtain ⟨Y, M, D, hh, i, W, J, rfl, rfl⟩ := eqA_some h
  have h1 : o.op.operands.toList.all (fun x => shut (ρ x)) = true := by
    rw [ho]
    show (shut (ρ x) && (shut (ρ y) && true)) = true
    rw [hx, hy]
    rfl
  have h2 : pureRun cx.P (execOp ρ o) = some (.value (.bool true)) := by
    rw [hP]; exact eql_run ho hx hy
  unfold evOp
  rw [ho]
  simp only
  rw [closedRun_val h1 h2 rfl]
  rfl
theorem hkS_ok {cx : Cx} (hP : cx.P = Tryz.prog) (h : HookOk cx hk) : HookOk cx hkS := by
  refine ⟨fun o ρ id H p v H' p' e => ?_, h.2⟩
  unfold hkS at e
  split at e
  · rename_i t x y t2 ho
    split at e
    · rename_i a b ht hx hy
      split at e
      · rename_i c hc
        simp only [Option.some.injEq, Prod.mk.injEq] at e
        obtain ⟨rfl, rfl, rfl, rfl⟩ := e
        have ht := Nat.eq_of_beq_eq_true ht
        subst ht
        exact eql_ev hP ho hx hy hc
      · exact h.1 o ρ id H p v H' p' e
    · exact h.1 o ρ id H p v H' p' e
  · exact h.1 o ρ id H p v H' p' e
end Go.Proofs.YthopphfehgdocaaGreatDoor
namespace Go.Proofs.YthopphfehgdocaaGreatDoor
open Go Go.RowKit Go.Ev Go.Proofs Go.Shelf
set_option linter.unusedSimpArgs false
set_option linter.unusedVariables false
open Classical in
/-- the second that a text tells -/
noncomputable def prF (k : Nat) (s : ByteArray) : Nat := if h : ∃ n, yearN n ∧ s = txF k n then Clk.fo h.choose else 0
open Classical in
noncomputable def pkF (k : Nat) (s : ByteArray) : Bool := decide (∃ n, yearN n ∧ s = txF k n)
noncomputable def paV (args : Array Value) : Option Value := match args.toList with
  | [.string s, .string f] => match fmtK f with
    | 0 => none
    | k + 1 => some (splV (prF (k + 1) s))
  | _ => none
noncomputable def paK (args : Array Value) : Bool := match args.toList with
  | [.string s, .string f] => match fmtK f with
    | 0 => false
    | k + 1 => pkF (k + 1) s == true
  | _ => false
noncomputable def paA : AFn := { f := 13, val := paV, ok := paK }
noncomputable def laB : List AFn := [csp3A, fmA, paA, smA]
end Go.Proofs.YthopphfehgdocaaGreatDoor
namespace Go.Proofs.YthopphfehgdocaaGreatDoor
open Go Go.RowKit Go.Ev Go.Proofs Go.Shelf
set_option linter.unusedSimpArgs false
set_option linter.unusedVariables false
def bX (d second : Int) : Nat := FloatKind.nearest FloatKind.f64 (IntKind.wrap IntKind.i64 ((IntKind.wrap IntKind.i64 (86400 * d)) + (IntKind.wrap IntKind.i64 (Int.tmod (IntKind.wrap IntKind.u64 second) 86400))))
def bN (x : Nat) : Int := nsF (sYF x) (sMF x) (sDF x) (shF x) (siF x) (sSF x)
def bT (k : Nat) (x : Nat) : ByteArray := txF k (bN x)
noncomputable def bP (k : Nat) (x : Nat) : Nat := prF k (bT k x)
noncomputable def bU (x : Nat) : List Bool := [((fsecF x) == true), ((decide ((sYF x) < 1000)) == false), ((decide ((sYF x) > 9999)) == false), ((isoKF (sYF x) (sMF x) (sDF x) (shF x) (siF x) (sSF x)) == true), ((pkF (0 + 1) (bT (0 + 1) x)) == true), (sam8F (sYF x) (sMF x) (sDF x) (shF x) (siF x) (sWF x) (sJF x) (sYF (bP (0 + 1) x)) (sMF (bP (0 + 1) x)) (sDF (bP (0 + 1) x)) (shF (bP (0 + 1) x)) (siF (bP (0 + 1) x)) (sWF (bP (0 + 1) x)) (sJF (bP (0 + 1) x))), ((sm2F (sSF x) (sSF (bP (0 + 1) x))) == true), ((pkF (1 + 1) (bT (1 + 1) x)) == true), (sam8F (sYF x) (sMF x) (sDF x) (shF x) (siF x) (sWF x) (sJF x) (sYF (bP (1 + 1) x)) (sMF (bP (1 + 1) x)) (sDF (bP (1 + 1) x)) (shF (bP (1 + 1) x)) (siF (bP (1 + 1) x)) (sWF (bP (1 + 1) x)) (sJF (bP (1 + 1) x))), ((sm2F (sSF x) (sSF (bP (1 + 1) x))) == true), ((pkF (2 + 1) (bT (2 + 1) x)) == true), (sam8F (sYF x) (sMF x) (sDF x) (shF x) (siF x) (sWF x) (sJF x) (sYF (bP (2 + 1) x)) (sMF (bP (2 + 1) x)) (sDF (bP (2 + 1) x)) (shF (bP (2 + 1) x)) (siF (bP (2 + 1) x)) (sWF (bP (2 + 1) x)) (sJF (bP (2 + 1) x))), ((sm2F (sSF x) (sSF (bP (2 + 1) x))) == true), ((pkF (3 + 1) (bT (3 + 1) x)) == true), (sam8F (sYF x) (sMF x) (sDF x) (shF x) (siF x) (sWF x) (sJF x) (sYF (bP (3 + 1) x)) (sMF (bP (3 + 1) x)) (sDF (bP (3 + 1) x)) (shF (bP (3 + 1) x)) (siF (bP (3 + 1) x)) (sWF (bP (3 + 1) x)) (sJF (bP (3 + 1) x))), ((sm2F (sSF x) (sSF (bP (3 + 1) x))) == true), ((pkF (4 + 1) (bT (4 + 1) x)) == true), (sam8F (sYF x) (sMF x) (sDF x) (shF x) (siF x) (sWF x) (sJF x) (sYF (bP (4 + 1) x)) (sMF (bP (4 + 1) x)) (sDF (bP (4 + 1) x)) (shF (bP (4 + 1) x)) (siF (bP (4 + 1) x)) (sWF (bP (4 + 1) x)) (sJF (bP (4 + 1) x))), ((sm2F (sSF x) (sSF (bP (4 + 1) x))) == true), ((pkF (5 + 1) (bT (5 + 1) x)) == true), (sam8F (sYF x) (sMF x) (sDF x) (shF x) (siF x) (sWF x) (sJF x) (sYF (bP (5 + 1) x)) (sMF (bP (5 + 1) x)) (sDF (bP (5 + 1) x)) (shF (bP (5 + 1) x)) (siF (bP (5 + 1) x)) (sWF (bP (5 + 1) x)) (sJF (bP (5 + 1) x))), ((sm2F (sSF x) (sSF (bP (5 + 1) x))) == true)]
noncomputable def bL (x : Nat) : List Bool :=
  let u := fun i => (bU x).getD i true
  [u 0, u 1, u 1, u 1, u 1, u 2, u 3, u 4, u 5, u 6, u 3, u 7, u 8, u 9, u 3, u 10, u 11, u 12, u 3, u 13, u 14, u 15, u 3, u 16, u 17, u 18, u 3, u 19, u 20, u 21]
theorem bL_ok {x : Nat} (hu : ∀ b ∈ bU x, b = true) : ∀ b ∈ bL x, b = true := by
  have g := getD_true hu
  have h : (bL x).all (fun b => b) = true := by
    unfold bL
    exact (all_c (g 0) (all_c (g 1) (all_c (g 1) (all_c (g 1) (all_c (g 1) (all_c (g 2) (all_c (g 3) (all_c (g 4) (all_c (g 5) (all_c (g 6) (all_c (g 3) (all_c (g 7) (all_c (g 8) (all_c (g 9) (all_c (g 3) (all_c (g 10) (all_c (g 11) (all_c (g 12) (all_c (g 3) (all_c (g 13) (all_c (g 14) (all_c (g 15) (all_c (g 3) (all_c (g 16) (all_c (g 17) (all_c (g 18) (all_c (g 3) (all_c (g 19) (all_c (g 20) (all_c (g 21) all_n))))))))))))))))))))))))))))))
  exact fun b hb => List.all_eq_true.1 h b hb
theorem bckA (day second : Int) (r1 : (((decide ((Int.tmod day 2932897) < ((-354285 : Int)))) == false)) = true) (hl : ∀ b ∈ bL (bX (Int.tmod day 2932897) second), b = true) : ∃ H' nx', evFunc (withB laB lpQ) 120 5 #[.int .i64 day, .int .i64 second] H0 12 = some (.bool true, H', nx') :=
  orc_sel (hkS_ok rfl (hkB laB lpQ)) (m := bitsN 159 371109499501822861315766460711549741252402028300) (l := (((decide ((Int.tmod day 2932897) < ((-354285 : Int)))) == false)) :: bL (bX (Int.tmod day 2932897) second)) (p := bitsN 113 638940391324612117253766090851328) (by kernel_rfl) (by kernel_rfl) (by kernel_rfl) (forall_cons r1 hl)
theorem bckB (day second : Int) (r1 : (((decide ((Int.tmod day 2932897) < ((-354285 : Int)))) == true)) = true) (hl : ∀ b ∈ bL (bX (IntKind.wrap IntKind.i64 (0 - (Int.tmod day 2932897))) second), b = true) : ∃ H' nx', evFunc (withB laB lpQ) 120 5 #[.int .i64 day, .int .i64 second] H0 12 = some (.bool true, H', nx') :=
  orc_sel (hkS_ok rfl (hkB laB lpQ)) (m := bitsN 159 371109499501822861315766460711549741252402028300) (l := (((decide ((Int.tmod day 2932897) < ((-354285 : Int)))) == true)) :: bL (bX (IntKind.wrap IntKind.i64 (0 - (Int.tmod day 2932897))) second)) (p := bitsN 113 638940391324612117253766090851329) (by kernel_rfl) (by kernel_rfl) (by kernel_rfl) (forall_cons r1 hl)
end Go.Proofs.YthopphfehgdocaaGreatDoor
