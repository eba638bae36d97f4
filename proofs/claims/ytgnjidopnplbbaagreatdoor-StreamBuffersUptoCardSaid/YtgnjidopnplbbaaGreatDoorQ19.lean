import Derived.Test.YtgnjidopnplbbaaGreatDoorQ18
/- Conditions: the law StreamBuffers. -/
set_option maxRecDepth 1000000
set_option linter.unusedVariables false
namespace Go.V
open Go Go.Proofs

/-- The reference's buffer. -/
def rbc (n : Int) (l : List T) (a : Int) : List AV := [.int .i64 n, .slice 4 (tcellL l) .any, .int .i64 a]
theorem vc27 (B : Nat) (w0 : World) (G : Nat → AV) (n : Int) (Q : AV → State → Prop) : (bodyC (EV B w0 G) (H0 (EV B w0 G)) (fun _ _ _ _ => False) annA noHint 27 [.int .i64 n] noObj Q) =
 ((bcase (decide (((n) : Int) < 0))
 (Q (AV.tuple [(AV.agg [(AV.int IntKind.i64 0), AV.nilslice, (AV.int IntKind.i64 0)]), (AV.int IntKind.i64 1)]) (noObj))
 (bcase (decide (((n) : Int) > 1000))
 (Q (AV.tuple [(AV.agg [(AV.int IntKind.i64 0), AV.nilslice, (AV.int IntKind.i64 0)]), (AV.int IntKind.i64 1)]) (noObj))
 (Q (AV.tuple [(AV.agg [(AV.int IntKind.i64 (n)), AV.nilslice, (AV.int IntKind.i64 0)]), (AV.int IntKind.i64 0)]) (noObj))))) := by kernel_rfl
def C27 : Contract := fun args σ K => ∃ n : Int, args = [.int .i64 n] ∧
  ((0 ≤ n ∧ n ≤ 1000 → K (.tuple [.agg (rbc n [] 0), .int .i64 0]) σ.untok) ∧ (¬ (0 ≤ n ∧ n ≤ 1000) → K (.tuple [.agg (rbc 0 [] 0), .int .i64 1]) σ.untok))
def N71 : FnHint := fun id i => match Nat.beq id 1 && Nat.beq i 5 with
  | true => Hint.as (fun t : T => .vptr (tc t))
  | false => Hint.no
theorem vc71 (B : Nat) (w0 : World) (G : Nat → AV) (n : Int) (l : List T) (a : Int) (k : Nat) (Q : AV → State → Prop) : (bodyC (EV B w0 G) (H0 (EV B w0 G)) (fun _ _ _ _ => False) annA N71 71 [.agg (rbc n l a), .int .i64 k] noObj Q) =
 (((((0 : Int) ≤ (((k) : Nat) : Int)) ∧
 (((((k) : Nat) : Int) : Int) < (((List.length (tcellL l)) : Nat) : Int))) ∧
 (∃ x0 : T, (((AV.vptr (AV.cells (List.getD (tcellL l) (Int.toNat (↑k : Int)) AV.undef))) = (AV.vptr [(AV.int IntKind.i64 (T.k x0)), (AV.int IntKind.i64 (T.n x0)), (AV.str (T.s x0)), (AV.slice 4 (tcellL (T.l x0)) Cap.any)])) ∧
 (Q (AV.slice 6 [(AV.agg [(AV.int IntKind.i64 (((k) : Nat) : Int)), (AV.int IntKind.i64 (((k) : Nat) : Int)), (AV.int IntKind.i64 (T.k x0)), (AV.int IntKind.i64 (T.n x0)), (AV.str (T.s x0)), (AV.slice 4 (tcellL (T.l x0)) Cap.any)])] Cap.full) (noObj)))))) := by kernel_rfl
def C71 : Contract := fun args σ K => ∃ (n : Int) (l : List T) (m : Cap) (a : Int) (k : Nat), args = [.agg [.int .i64 n, .slice 4 (tcellL l) m, .int .i64 a], .int .i64 k] ∧ k < l.length ∧ ∀ x : T, l[k]? = some x → K (dealsV [(k, x)]) σ.untok
def H28 (E : Env) : Hand := hnd E annA noHints [(71, C71)]
theorem vc28 (B : Nat) (w0 : World) (G : Nat → AV) (n : Int) (l : List T) (a : Nat) (Q : AV → State → Prop) : (bodyC (EV B w0 G) (H28 (EV B w0 G)) (fun _ _ _ _ => False) annA noHint 28 [.agg (rbc n l a)] noObj Q) =
 ((bcase (decide (((((a) : Nat) : Int) : Int) ≥ 20000))
 (Q (AV.tuple [(AV.agg [(AV.int IntKind.i64 (n)), (AV.slice 4 (tcellL l) Cap.any), (AV.int IntKind.i64 (((a) : Nat) : Int))]), (AV.int IntKind.i64 0), AV.nilslice, (AV.int IntKind.i64 91)]) (noObj))
 (bcase (decide (((((a) : Nat) : Int) : Int) < (((List.length (tcellL l)) : Nat) : Int)))
 (∃ n0 : Int, (∃ l1 : List T, (∃ m2 : Cap, (∃ a3 : Int, (∃ k4 : Nat, (([(AV.agg [(AV.int IntKind.i64 (n)), (AV.slice 4 (tcellL l) Cap.any), (AV.int IntKind.i64 (IntKind.wrap IntKind.i64 ((((a) : Nat) : Int) + 1)))]), (AV.int IntKind.i64 (((a) : Nat) : Int))] = [(AV.agg [(AV.int IntKind.i64 (n0)), (AV.slice 4 (tcellL l1) (m2)), (AV.int IntKind.i64 (a3))]), (AV.int IntKind.i64 (((k4) : Nat) : Int))]) ∧
 ((((k4) : Nat) < (List.length (l1))) ∧
 (∀ x5 : T, (((l1[k4]?) = (Option.some (x5))) → (((TV.v (AV.agg [(AV.int IntKind.i64 (n)), (AV.slice 4 (tcellL l) Cap.any), (AV.int IntKind.i64 (IntKind.wrap IntKind.i64 ((((a) : Nat) : Int) + 1)))])) = (TV.v (AV.agg [(AV.int IntKind.i64 (n)), (AV.slice 4 (tcellL l) Cap.any), (AV.int IntKind.i64 (IntKind.wrap IntKind.i64 ((((a) : Nat) : Int) + 1)))]))) ∧
 (((TV.v (AV.int IntKind.i64 (((a) : Nat) : Int))) = (TV.v (AV.int IntKind.i64 (((a) : Nat) : Int)))) ∧
 (((TV.v (AV.int IntKind.i64 (((a) : Nat) : Int))) = (TV.v (AV.int IntKind.i64 (((a) : Nat) : Int)))) ∧
 (Q (AV.tuple [(AV.agg [(AV.int IntKind.i64 (n)), (AV.slice 4 (tcellL l) Cap.any), (AV.int IntKind.i64 (IntKind.wrap IntKind.i64 ((((a) : Nat) : Int) + 1)))]), (AV.int IntKind.i64 (((a) : Nat) : Int)), (AV.slice 6 [(AV.agg [(AV.int IntKind.i64 (((k4) : Nat) : Int)), (AV.int IntKind.i64 (((k4) : Nat) : Int)), (AV.int IntKind.i64 (T.k x5)), (AV.int IntKind.i64 (T.n x5)), (AV.str (T.s x5)), (AV.slice 4 (tcellL (T.l x5)) Cap.any)])] Cap.full), (AV.int IntKind.i64 0)]) (State.untok (noObj)))))))))))))))
 (Q (AV.tuple [(AV.agg [(AV.int IntKind.i64 (n)), (AV.slice 4 (tcellL l) Cap.any), (AV.int IntKind.i64 (IntKind.wrap IntKind.i64 ((((a) : Nat) : Int) + 1)))]), (AV.int IntKind.i64 (((a) : Nat) : Int)), AV.nilslice, (AV.int IntKind.i64 0)]) (noObj))))) := by kernel_rfl
def askR (l : List T) (a : Nat) : List (Nat × T) := match l[a]? with
  | some x => [(a, x)]
  | none => []
def C28 : Contract := fun args σ K => ∃ (n : Int) (l : List T) (a : Nat), args = [.agg (rbc n l a)] ∧ (a < 20000 ∧ l.length ≤ 20000) ∧
  K (.tuple [.agg (rbc n l (a + 1 : Nat)), .int .i64 a, dealsV (askR l a), .int .i64 0]) σ.untok
def A9 : Nat → FnAnn := fun f => match Nat.beq f 29 with
  | true => ⟨fun id i => match Nat.beq id 11 && Nat.beq i 3 with | true => .frz | false => .none, luk [] [(13, [4, 5])]⟩
  | false => annA f
def H29 (E : Env) : Hand := hnd E annA noHints [(32, C32), (71, C71)]
def none4 : List AV := [.int .i64 0, .int .i64 0, .str ⟨⟨[]⟩⟩, .nilslice]
def rowI (l : List T) (i : Nat) : AObj := .cells (flat (tcellL (l.take i)) ++ (List.replicate (l.length - i) none4).flatten) 37 4 false
def li29 (n : Int) (l : List T) (a : Int) (t : T) : LI Nat where
  F i := [(2, .l 2 0), (3, .l 3 0), (4, .l 4 0), (8, .v (.int .i64 l.length)), (9, .v (.rslice 0 0 l.length)), (10, .v (.int .i64 i))]
  FL _ := [(2, rbc n l a), (3, tc t), (4, [.int .i64 0, .nilslice, .int .i64 0])]
  L i := [rowI l i]
  m _ := 1
  I i := i ≤ l.length
  μ i := l.length - i
  Ex _ e b σ := match e with
    | .exit 0 => atFS b σ [(2, .l 2 0), (3, .l 3 0), (4, .l 4 0), (8, .v (.int .i64 l.length)), (9, .v (.rslice 0 0 l.length))] [(2, rbc n l a), (3, tc t), (4, [.int .i64 0, .nilslice, .int .i64 0])] [.cells (flat (tcellL l)) 37 4 false] 1
    | _ => False
theorem fnLoops_29 : fnLoops Tryz.prog 29 = [.loop (lbody Tryz.prog 29 0)] := by kernel_rfl
def N29 : FnHint := fun id i => match Nat.beq id 10 && Nat.beq i 5 with
  | true => Hint.as (fun t : T => .vptr (tc t))
  | false => match Nat.beq id 11 && Nat.beq i 3 with
    | true => Hint.as (fun l : List T => .slice 4 (tcellL l) (.tok 1))
    | false => symAt [(10, 7), (10, 8), (6, 1)] id i
theorem vc29l (B : Nat) (w0 : World) (G : Nat → AV) (n : Int) (l : List T) (a : Int) (t : T) (i : Nat) : (wpC (EV B w0 G) (H29 (EV B w0 G)) (fun _ _ _ _ => False) (A9 29) N29 (lbody Tryz.prog 29 0) ((li29 n l a t).post i) (frm ((li29 n l a t).F i) ((li29 n l a t).FL i)) (lst ((li29 n l a t).L i) ((li29 n l a t).m i))) =
 ((bcase (decide (((((i) : Nat) : Int) : Int) < (((List.length (l)) : Nat) : Int)))
 ((((0 : Int) ≤ (((i) : Nat) : Int)) ∧
 (((((i) : Nat) : Int) : Int) < (((List.length (tcellL l)) : Nat) : Int))) ∧
 (∃ x0 : T, (((AV.vptr (AV.cells (List.getD (tcellL l) (Int.toNat (↑i : Int)) AV.undef))) = (AV.vptr [(AV.int IntKind.i64 (T.k x0)), (AV.int IntKind.i64 (T.n x0)), (AV.str (T.s x0)), (AV.slice 4 (tcellL (T.l x0)) Cap.any)])) ∧
 ((((0 : Int) ≤ (((i) : Nat) : Int)) ∧
 (((((i) : Nat) : Int) : Int) < (((List.length (l)) : Nat) : Int))) ∧
 ((((((0 + (Int.toNat (((i) : Nat) : Int))) * 4) + 4) : Nat) ≤ (List.length ((flat (tcellL (List.take i l))) ++ (List.flatten (List.replicate (List.length l - i) none4))))) ∧
 (∃ x'1 : Nat, (((LI.I (li29 n l a t) x'1) ∧
 (((LI.μ (li29 n l a t) x'1) : Nat) < (LI.μ (li29 n l a t) i))) ∧
 (((TV.l 2 0) = (TV.l 2 0)) ∧
 (((TV.l 3 0) = (TV.l 3 0)) ∧
 (((TV.l 4 0) = (TV.l 4 0)) ∧
 (((TV.v (AV.int IntKind.i64 (((List.length (l)) : Nat) : Int))) = (TV.v (AV.int IntKind.i64 (((List.length (l)) : Nat) : Int)))) ∧
 (((TV.v (AV.rslice 0 0 (List.length (l)))) = (TV.v (AV.rslice 0 0 (List.length (l))))) ∧
 (((TV.v (AV.int IntKind.i64 (IntKind.wrap IntKind.i64 ((((i) : Nat) : Int) + 1)))) = (TV.v (AV.int IntKind.i64 (((x'1) : Nat) : Int)))) ∧
 (([(AV.int IntKind.i64 (n)), (AV.slice 4 (tcellL l) Cap.any), (AV.int IntKind.i64 (a))] = [(AV.int IntKind.i64 (n)), (AV.slice 4 (tcellL l) Cap.any), (AV.int IntKind.i64 (a))]) ∧
 (([(AV.int IntKind.i64 (T.k t)), (AV.int IntKind.i64 (T.n t)), (AV.str (T.s t)), (AV.slice 4 (tcellL (T.l t)) Cap.any)] = [(AV.int IntKind.i64 (T.k t)), (AV.int IntKind.i64 (T.n t)), (AV.str (T.s t)), (AV.slice 4 (tcellL (T.l t)) Cap.any)]) ∧
 (([(AV.int IntKind.i64 0), AV.nilslice, (AV.int IntKind.i64 0)] = [(AV.int IntKind.i64 0), AV.nilslice, (AV.int IntKind.i64 0)]) ∧
 (((1 : Nat) = 1) ∧
 (((AObj.cells (asplice ((flat (tcellL (List.take i l))) ++ (List.flatten (List.replicate (List.length l - i) none4))) ((0 + (Int.toNat (((i) : Nat) : Int))) * 4) [(AV.int IntKind.i64 (T.k x0)), (AV.int IntKind.i64 (T.n x0)), (AV.str (T.s x0)), (AV.slice 4 (tcellL (T.l x0)) Cap.any)]) 37 4 false) = (AObj.cells ((flat (tcellL (List.take x'1 l))) ++ (List.flatten (List.replicate (List.length l - x'1) none4))) 37 4 false)) ∧
 True))))))))))))))))))
 (((TV.l 2 0) = (TV.l 2 0)) ∧
 (((TV.l 3 0) = (TV.l 3 0)) ∧
 (((TV.l 4 0) = (TV.l 4 0)) ∧
 (((TV.v (AV.int IntKind.i64 (((List.length (l)) : Nat) : Int))) = (TV.v (AV.int IntKind.i64 (((List.length (l)) : Nat) : Int)))) ∧
 (((TV.v (AV.rslice 0 0 (List.length (l)))) = (TV.v (AV.rslice 0 0 (List.length (l))))) ∧
 (([(AV.int IntKind.i64 (n)), (AV.slice 4 (tcellL l) Cap.any), (AV.int IntKind.i64 (a))] = [(AV.int IntKind.i64 (n)), (AV.slice 4 (tcellL l) Cap.any), (AV.int IntKind.i64 (a))]) ∧
 (([(AV.int IntKind.i64 (T.k t)), (AV.int IntKind.i64 (T.n t)), (AV.str (T.s t)), (AV.slice 4 (tcellL (T.l t)) Cap.any)] = [(AV.int IntKind.i64 (T.k t)), (AV.int IntKind.i64 (T.n t)), (AV.str (T.s t)), (AV.slice 4 (tcellL (T.l t)) Cap.any)]) ∧
 (([(AV.int IntKind.i64 0), AV.nilslice, (AV.int IntKind.i64 0)] = [(AV.int IntKind.i64 0), AV.nilslice, (AV.int IntKind.i64 0)]) ∧
 (((1 : Nat) = 1) ∧
 (((AObj.cells ((flat (tcellL (List.take i l))) ++ (List.flatten (List.replicate (List.length l - i) none4))) 37 4 false) = (AObj.cells (flat (tcellL l)) 37 4 false)) ∧
 True)))))))))))) := by kernel_rfl
def L29 (n : Int) (l : List T) (a : Int) (t : T) : LHand := fun _ Q b σ => atFS b σ ((li29 n l a t).F 0) ((li29 n l a t).FL 0) [rowI l 0] 1 ∧
  Q (.exit 0) (frm [(2, .l 2 0), (3, .l 3 0), (4, .l 4 0), (8, .v (.int .i64 l.length)), (9, .v (.rslice 0 0 l.length))] [(2, rbc n l a), (3, tc t), (4, [.int .i64 0, .nilslice, .int .i64 0])]) (lst [.cells (flat (tcellL l)) 37 4 false] 1)
theorem vc29 (B : Nat) (w0 : World) (G : Nat → AV) (n : Int) (l : List T) (a : Nat) (t : T) (Q : AV → State → Prop) : (bodyC (EV B w0 G) (H29 (EV B w0 G)) (L29 n l a t) A9 N29 29 [.agg (rbc n l a), .agg (tc t)] noObj Q) =
 ((∃ t0 : T, (([(AV.agg [(AV.int IntKind.i64 (T.k t)), (AV.int IntKind.i64 (T.n t)), (AV.str (T.s t)), (AV.slice 4 (tcellL (T.l t)) Cap.any)])] = [(AV.agg [(AV.int IntKind.i64 (T.k t0)), (AV.int IntKind.i64 (T.n t0)), (AV.str (T.s t0)), (AV.slice 4 (tcellL (T.l t0)) Cap.any)])]) ∧
 ((((T.bulk t0) : Nat) ≤ 1099511627776) ∧
 (bcase (((chkT t0) : Int) != 0)
 (Q (AV.tuple [(AV.agg [(AV.int IntKind.i64 (n)), (AV.slice 4 (tcellL l) Cap.any), (AV.int IntKind.i64 (((a) : Nat) : Int))]), (AV.int IntKind.i64 0), AV.nilslice, (AV.int IntKind.i64 3)]) (State.untok (noObj)))
 (bcase (decide (((((List.length (tcellL l)) : Nat) : Int) : Int) ≥ 20000))
 (Q (AV.tuple [(AV.agg [(AV.int IntKind.i64 (n)), (AV.slice 4 (tcellL l) Cap.any), (AV.int IntKind.i64 (((a) : Nat) : Int))]), (AV.int IntKind.i64 0), AV.nilslice, (AV.int IntKind.i64 91)]) (State.untok (noObj)))
 ((((0 : Int) ≤ (((List.length (tcellL l)) : Nat) : Int)) ∧
 ((((((List.length (tcellL l)) : Nat) : Int) : Int) ≤ (((List.length (tcellL l)) : Nat) : Int)) ∧
 ((((56 * (((List.length (tcellL l)) : Nat) : Int)) : Int) ≤ 140737488355328) ∧
 (((((List.length (tcellL l)) : Nat) : Int) : Int) ≤ 4611686018427387904)))) ∧
 ((((TV.l 2 0) = (TV.l 2 0)) ∧
 (((TV.l 3 0) = (TV.l 3 0)) ∧
 (((TV.l 4 0) = (TV.l 4 0)) ∧
 (((TV.v (AV.int IntKind.i64 (((List.length (tcellL l)) : Nat) : Int))) = (TV.v (AV.int IntKind.i64 (((List.length (l)) : Nat) : Int)))) ∧
 (((TV.v (AV.rslice 0 0 (Int.toNat (((List.length (tcellL l)) : Nat) : Int)))) = (TV.v (AV.rslice 0 0 (List.length (l))))) ∧
 (((TV.v (AV.int IntKind.i64 0)) = (TV.v (AV.int IntKind.i64 0))) ∧
 (([(AV.int IntKind.i64 (n)), (AV.slice 4 (tcellL l) Cap.any), (AV.int IntKind.i64 (((a) : Nat) : Int))] = [(AV.int IntKind.i64 (n)), (AV.slice 4 (tcellL l) Cap.any), (AV.int IntKind.i64 (((a) : Nat) : Int))]) ∧
 (([(AV.int IntKind.i64 (T.k t)), (AV.int IntKind.i64 (T.n t)), (AV.str (T.s t)), (AV.slice 4 (tcellL (T.l t)) Cap.any)] = [(AV.int IntKind.i64 (T.k t)), (AV.int IntKind.i64 (T.n t)), (AV.str (T.s t)), (AV.slice 4 (tcellL (T.l t)) Cap.any)]) ∧
 (([(AV.int IntKind.i64 0), AV.nilslice, (AV.int IntKind.i64 0)] = [(AV.int IntKind.i64 0), AV.nilslice, (AV.int IntKind.i64 0)]) ∧
 (((1 : Nat) = 1) ∧
 (((AObj.cells (List.flatten (List.replicate (Int.toNat (↑(List.length (tcellL l)) : Int)) (AV.cells (av (Go.Value.agg #[Go.Value.int IntKind.i64 0, Go.Value.int IntKind.i64 0, Go.Value.string { data := #[] }, Go.Value.slice Option.none 0 0]))))) 37 4 false) = (AObj.cells ([] ++ (List.flatten (List.replicate (List.length l - 0) none4))) 37 4 false)) ∧
 True))))))))))) ∧
 ((((0 : Nat) = 0) ∧
 (((((((List.length (l)) + 1) * 56) : Nat) ≤ 140737488355328) ∧
 ((((List.length (l)) + 1) : Nat) ≤ 4611686018427387904)) ∧
 ((((List.length (l)) * 4) : Nat) ≤ (List.length (flat (tcellL l)))))) ∧
 ((((List.length ((List.take ((List.length (l)) * 4) (flat (tcellL l))) ++ [(AV.int IntKind.i64 (T.k t)), (AV.int IntKind.i64 (T.n t)), (AV.str (T.s t)), (AV.slice 4 (tcellL (T.l t)) Cap.any)])) : Nat) = (((List.length (l)) + 1) * 4)) ∧
 (∃ x1 : List T, (((AV.slice 4 (chunk (Option.some 4) ((List.take ((List.length (l)) * 4) (flat (tcellL l))) ++ [(AV.int IntKind.i64 (T.k t)), (AV.int IntKind.i64 (T.n t)), (AV.str (T.s t)), (AV.slice 4 (tcellL (T.l t)) Cap.any)]) ((List.length (l)) + 1)) (Cap.tok 1)) = (AV.slice 4 (tcellL x1) (Cap.tok 1))) ∧
 (bcase (decide (((((List.length (l)) : Nat) : Int) : Int) < (((a) : Nat) : Int)))
 (∃ n2 : Int, (∃ l3 : List T, (∃ m4 : Cap, (∃ a5 : Int, (∃ k6 : Nat, (([(AV.agg [(AV.int IntKind.i64 (n)), (AV.slice 4 (tcellL x1) (Cap.tok 1)), (AV.int IntKind.i64 (((a) : Nat) : Int))]), (AV.int IntKind.i64 (((List.length (l)) : Nat) : Int))] = [(AV.agg [(AV.int IntKind.i64 (n2)), (AV.slice 4 (tcellL l3) (m4)), (AV.int IntKind.i64 (a5))]), (AV.int IntKind.i64 (((k6) : Nat) : Int))]) ∧
 ((((k6) : Nat) < (List.length (l3))) ∧
 (∀ x7 : T, (((l3[k6]?) = (Option.some (x7))) → (((TV.v (AV.agg [(AV.int IntKind.i64 (n)), (AV.slice 4 (tcellL x1) (Cap.tok 1)), (AV.int IntKind.i64 (((a) : Nat) : Int))])) = (TV.v (AV.agg [(AV.int IntKind.i64 (n)), (AV.slice 4 (tcellL x1) (Cap.tok 1)), (AV.int IntKind.i64 (((a) : Nat) : Int))]))) ∧
 (((TV.v (AV.int IntKind.i64 (((List.length (l)) : Nat) : Int))) = (TV.v (AV.int IntKind.i64 (((List.length (l)) : Nat) : Int)))) ∧
 (((TV.v (AV.int IntKind.i64 (((List.length (l)) : Nat) : Int))) = (TV.v (AV.int IntKind.i64 (((List.length (l)) : Nat) : Int)))) ∧
 (Q (AV.tuple [(AV.agg [(AV.int IntKind.i64 (n)), (AV.slice 4 (tcellL x1) (Cap.tok 1)), (AV.int IntKind.i64 (((a) : Nat) : Int))]), (AV.int IntKind.i64 (((List.length (l)) : Nat) : Int)), (AV.slice 6 [(AV.agg [(AV.int IntKind.i64 (((k6) : Nat) : Int)), (AV.int IntKind.i64 (((k6) : Nat) : Int)), (AV.int IntKind.i64 (T.k x7)), (AV.int IntKind.i64 (T.n x7)), (AV.str (T.s x7)), (AV.slice 4 (tcellL (T.l x7)) Cap.any)])] Cap.full), (AV.int IntKind.i64 0)]) (State.untok (State.set (State.new (State.set (lst [(AObj.cells (flat (tcellL l)) 37 4 false)] 1) 0 AObj.dead) (AObj.cells ((List.take ((List.length (l)) * 4) (flat (tcellL l))) ++ [(AV.int IntKind.i64 (T.k t)), (AV.int IntKind.i64 (T.n t)), (AV.str (T.s t)), (AV.slice 4 (tcellL (T.l t)) Cap.any)]) 37 4 true)) 1 (AObj.tok ((List.length (l)) + 1) 37 4))))))))))))))))
 (Q (AV.tuple [(AV.agg [(AV.int IntKind.i64 (n)), (AV.slice 4 (tcellL x1) (Cap.tok 1)), (AV.int IntKind.i64 (((a) : Nat) : Int))]), (AV.int IntKind.i64 (((List.length (l)) : Nat) : Int)), AV.nilslice, (AV.int IntKind.i64 0)]) (State.set (State.new (State.set (lst [(AObj.cells (flat (tcellL l)) 37 4 false)] 1) 0 AObj.dead) (AObj.cells ((List.take ((List.length (l)) * 4) (flat (tcellL l))) ++ [(AV.int IntKind.i64 (T.k t)), (AV.int IntKind.i64 (T.n t)), (AV.str (T.s t)), (AV.slice 4 (tcellL (T.l t)) Cap.any)]) 37 4 true)) 1 (AObj.tok ((List.length (l)) + 1) 37 4)))))))))))))))) := by kernel_rfl
def comeL (l : List T) (t : T) : List T := if chkT t ≠ 0 then l else l ++ [t]
def comeD (l : List T) (a : Nat) (t : T) : List (Nat × T) := if chkT t ≠ 0 then [] else if l.length < a then [(l.length, t)] else []
def C29 : Contract := fun args σ K => ∃ (n : Int) (l : List T) (a : Nat) (t : T), args = [.agg (rbc n l a), .agg (tc t)] ∧ (t.bulk ≤ 1099511627776 ∧ l.length < 20000) ∧
  K (.tuple [.agg (rbc n (comeL l t) a), .int .i64 (if chkT t ≠ 0 then 0 else (l.length : Int)), dealsV (comeD l a t), .int .i64 (if chkT t ≠ 0 then 3 else 0)]) σ.untok
theorem vc31 (B : Nat) (w0 : World) (G : Nat → AV) (n : Int) (l : List T) (a : Nat) (Q : AV → State → Prop) : (bodyC (EV B w0 G) (H0 (EV B w0 G)) (fun _ _ _ _ => False) annA noHint 31 [.agg (rbc n l a)] noObj Q) =
 ((Q (AV.tuple [(AV.int IntKind.i64 (if Bool.false = Bool.true then if n > if Bool.true = Bool.true then if IntKind.wrap IntKind.i64 ((↑(List.length (tcellL l)) : Int) - (↑a : Int)) > 0 then IntKind.wrap IntKind.i64 ((↑(List.length (tcellL l)) : Int) - (↑a : Int)) else 0 else if IntKind.wrap IntKind.i64 ((↑(List.length (tcellL l)) : Int) - (↑a : Int)) < 0 then IntKind.wrap IntKind.i64 ((↑(List.length (tcellL l)) : Int) - (↑a : Int)) else 0 then n else if Bool.true = Bool.true then if IntKind.wrap IntKind.i64 ((↑(List.length (tcellL l)) : Int) - (↑a : Int)) > 0 then IntKind.wrap IntKind.i64 ((↑(List.length (tcellL l)) : Int) - (↑a : Int)) else 0 else if IntKind.wrap IntKind.i64 ((↑(List.length (tcellL l)) : Int) - (↑a : Int)) < 0 then IntKind.wrap IntKind.i64 ((↑(List.length (tcellL l)) : Int) - (↑a : Int)) else 0 else if n < if Bool.true = Bool.true then if IntKind.wrap IntKind.i64 ((↑(List.length (tcellL l)) : Int) - (↑a : Int)) > 0 then IntKind.wrap IntKind.i64 ((↑(List.length (tcellL l)) : Int) - (↑a : Int)) else 0 else if IntKind.wrap IntKind.i64 ((↑(List.length (tcellL l)) : Int) - (↑a : Int)) < 0 then IntKind.wrap IntKind.i64 ((↑(List.length (tcellL l)) : Int) - (↑a : Int)) else 0 then n else if Bool.true = Bool.true then if IntKind.wrap IntKind.i64 ((↑(List.length (tcellL l)) : Int) - (↑a : Int)) > 0 then IntKind.wrap IntKind.i64 ((↑(List.length (tcellL l)) : Int) - (↑a : Int)) else 0 else if IntKind.wrap IntKind.i64 ((↑(List.length (tcellL l)) : Int) - (↑a : Int)) < 0 then IntKind.wrap IntKind.i64 ((↑(List.length (tcellL l)) : Int) - (↑a : Int)) else 0)), (AV.int IntKind.i64 (IntKind.wrap IntKind.i64 ((if Bool.true = Bool.true then if IntKind.wrap IntKind.i64 ((↑(List.length (tcellL l)) : Int) - (↑a : Int)) > 0 then IntKind.wrap IntKind.i64 ((↑(List.length (tcellL l)) : Int) - (↑a : Int)) else 0 else if IntKind.wrap IntKind.i64 ((↑(List.length (tcellL l)) : Int) - (↑a : Int)) < 0 then IntKind.wrap IntKind.i64 ((↑(List.length (tcellL l)) : Int) - (↑a : Int)) else 0) - (if Bool.false = Bool.true then if n > if Bool.true = Bool.true then if IntKind.wrap IntKind.i64 ((↑(List.length (tcellL l)) : Int) - (↑a : Int)) > 0 then IntKind.wrap IntKind.i64 ((↑(List.length (tcellL l)) : Int) - (↑a : Int)) else 0 else if IntKind.wrap IntKind.i64 ((↑(List.length (tcellL l)) : Int) - (↑a : Int)) < 0 then IntKind.wrap IntKind.i64 ((↑(List.length (tcellL l)) : Int) - (↑a : Int)) else 0 then n else if Bool.true = Bool.true then if IntKind.wrap IntKind.i64 ((↑(List.length (tcellL l)) : Int) - (↑a : Int)) > 0 then IntKind.wrap IntKind.i64 ((↑(List.length (tcellL l)) : Int) - (↑a : Int)) else 0 else if IntKind.wrap IntKind.i64 ((↑(List.length (tcellL l)) : Int) - (↑a : Int)) < 0 then IntKind.wrap IntKind.i64 ((↑(List.length (tcellL l)) : Int) - (↑a : Int)) else 0 else if n < if Bool.true = Bool.true then if IntKind.wrap IntKind.i64 ((↑(List.length (tcellL l)) : Int) - (↑a : Int)) > 0 then IntKind.wrap IntKind.i64 ((↑(List.length (tcellL l)) : Int) - (↑a : Int)) else 0 else if IntKind.wrap IntKind.i64 ((↑(List.length (tcellL l)) : Int) - (↑a : Int)) < 0 then IntKind.wrap IntKind.i64 ((↑(List.length (tcellL l)) : Int) - (↑a : Int)) else 0 then n else if Bool.true = Bool.true then if IntKind.wrap IntKind.i64 ((↑(List.length (tcellL l)) : Int) - (↑a : Int)) > 0 then IntKind.wrap IntKind.i64 ((↑(List.length (tcellL l)) : Int) - (↑a : Int)) else 0 else if IntKind.wrap IntKind.i64 ((↑(List.length (tcellL l)) : Int) - (↑a : Int)) < 0 then IntKind.wrap IntKind.i64 ((↑(List.length (tcellL l)) : Int) - (↑a : Int)) else 0)))), (AV.int IntKind.i64 (if Bool.true = Bool.true then if IntKind.wrap IntKind.i64 ((↑a : Int) - (↑(List.length (tcellL l)) : Int)) > 0 then IntKind.wrap IntKind.i64 ((↑a : Int) - (↑(List.length (tcellL l)) : Int)) else 0 else if IntKind.wrap IntKind.i64 ((↑a : Int) - (↑(List.length (tcellL l)) : Int)) < 0 then IntKind.wrap IntKind.i64 ((↑a : Int) - (↑(List.length (tcellL l)) : Int)) else 0))]) (noObj))) := by kernel_rfl
def C31 : Contract := fun args σ K => ∃ (n : Int) (l : List T) (a : Nat), args = [.agg (rbc n l a)] ∧ (l.length ≤ 20000 ∧ a ≤ 20000 ∧ 0 ≤ n ∧ n ≤ 1000) ∧
  ∀ x y z : Int, (x = min (max 0 ((l.length : Int) - a)) n ∧ y = max 0 ((l.length : Int) - a) - min (max 0 ((l.length : Int) - a)) n ∧ z = max 0 ((a : Int) - l.length)) → K (.tuple [.int .i64 x, .int .i64 y, .int .i64 z]) σ.untok
end Go.V
/- Conditions: the law StreamBuffers: its loop. -/
set_option maxRecDepth 1000000
set_option linter.unusedVariables false
namespace Go.V
open Go Go.Proofs

def H6 (E : Env) : Hand := hnd E annA noHints [(16, C16), (22, C22), (24, C24), (23, C23), (30, C30), (27, C27), (28, C28), (29, C29), (31, C31)]
def N6 : FnHint := fun id i => match (Nat.beq id 10 && Nat.beq i 2) || ((Nat.beq id 16 || Nat.beq id 17) && Nat.beq i 3) with
  | true => Hint.as (fun c : Came => .vptr (cc c))
  | false => Hint.no
structure X6 where
  i : Nat
  σ : State
  r : Option Nat
  s : BS
  l : List T
structure X6.Inv (x : X6) (n : Int) : Prop where
  i : x.i ≤ 150
  wf : x.s.wf
  room : x.s.room = n
  a : BufAt x.σ 0 x.r x.s
  came : x.l.length = x.s.came
  pend : x.s.pend = x.l.drop x.s.deal
  asked : x.s.asked ≤ x.i
  came2 : x.s.came ≤ x.i
  full : x.s.deal = min x.s.asked x.s.came
def ls6 (n : Int) (l : List Came) : LS X6 where
  F x := [(1, .v (.slice 5 (cameL l) .any)), (5, .v (.ptr 0 0)), (6, .v (.int .i64 0)), (7, .l 7 0), (9, .v (.int .i64 x.i))]
  FL x := [(7, rbc n x.l x.s.asked)]
  S x := x.σ
  I x := x.Inv n
  μ x := 150 - x.i
  Ex _ e a σ := match e with
    | .exit 0 => True
    | _ => False
theorem fnParts_6 : fnParts Tryz.prog [21] 6 = [.loop (bodyOf (fnPart Tryz.prog [21] 6 0))] := by kernel_rfl
theorem subParts_6 : partsIn [21] (bodyOf (fnPart Tryz.prog [21] 6 0)) = [subPart [21] (fnPart Tryz.prog [21] 6 0) 0] := by kernel_rfl
theorem headId_6 : headId (subPart [21] (fnPart Tryz.prog [21] 6 0) 0) = some 21 := by kernel_rfl
structure X6.Mid (x : X6) (n : Int) : Prop where
  i : x.i < 150
  wf : x.s.wf
  room : x.s.room = n
  rn : 0 ≤ n ∧ n ≤ 1000
  a : BufAt x.σ 0 x.r x.s
  came : x.l.length = x.s.came
  pend : x.s.pend = x.l.drop x.s.deal
  asked : x.s.asked ≤ x.i + 1
  came2 : x.s.came ≤ x.i + 1
  full : x.s.deal = min x.s.asked x.s.came
def cs6 (n : Int) (l : List Came) (x : X6) : CS Y7 where
  I y := BufAt y.σ 0 y.r x.s
  F _ := (ls6 n l).F x
  FL _ := (ls6 n l).FL x
  S y := y.σ
theorem vc6t (B : Nat) (w0 : World) (G : Nat → AV) (n : Int) (l : List Came) (x : X6) : (wpX [] (EV B w0 G) (H6 (EV B w0 G)) (fun _ _ _ _ => False) (annA 6) N6 (subPart [21] (fnPart Tryz.prog [21] 6 0) 0) ((cs6 n l x).post) (frm ((ls6 n l).F x) ((ls6 n l).FL x)) ((ls6 n l).S x)) =
 ((∃ b0 : Nat, (∃ r1 : Option Nat, (∃ s2 : BS, (([(AV.ptr 0 0)] = [(AV.ptr (b0) 0)]) ∧
 (((BufAt ((ls6 n l).3 x) (b0) (r1) (s2)) ∧
 ((BS.wf s2) ∧
 (((0 : Int) ≤ (BS.room s2)) ∧
 (((BS.room s2) : Int) ≤ 1000)))) ∧
 (∀ r'3 : Option Nat, (∀ σ'4 : State, (((BufAt σ'4 (b0) (r'3) (s2)) ∧
 (Keeps ((ls6 n l).3 x) σ'4 (b0) (r1) (r'3))) → (∃ n5 : Int, (∃ l6 : List T, (∃ a7 : Nat, (([(AV.agg [(AV.int IntKind.i64 (n)), (AV.slice 4 (tcellL (X6.l x)) Cap.any), (AV.int IntKind.i64 (((BS.asked (X6.s x)) : Nat) : Int))])] = [(AV.agg [(AV.int IntKind.i64 (n5)), (AV.slice 4 (tcellL l6) Cap.any), (AV.int IntKind.i64 (((a7) : Nat) : Int))])]) ∧
 (((((List.length (l6)) : Nat) ≤ 20000) ∧
 ((((a7) : Nat) ≤ 20000) ∧
 (((0 : Int) ≤ (n5)) ∧
 (((n5) : Int) ≤ 1000)))) ∧
 (∀ x8 : Int, (∀ y9 : Int, (∀ z10 : Int, (((((x8) : Int) = (Min.min (Max.max 0 ((↑(List.length l6) : Int) - (↑a7 : Int))) n5)) ∧
 ((((y9) : Int) = ((Max.max 0 ((↑(List.length l6) : Int) - (↑a7 : Int))) - (Min.min (Max.max 0 ((↑(List.length l6) : Int) - (↑a7 : Int))) n5))) ∧
 (((z10) : Int) = (Max.max 0 ((↑a7 : Int) - (↑(List.length l6) : Int)))))) → (bcase (((BS.lie s2) : Int) != (x8))
 False
 (bcase (((((((BS.came s2) : Nat) : Int) - (((BS.deal s2) : Nat) : Int)) - (BS.lie s2)) : Int) != (y9))
 False
 (bcase ((((((BS.asked s2) : Nat) : Int) - (((BS.deal s2) : Nat) : Int)) : Int) != (z10))
 False
 (∃ y11 : Y7, ((((0 : Nat) < (State.next (y11.2))) ∧
 (∃ q12 : AV, (∃ fr13 : Nat, (((State.objs (y11.2) 0) = (AObj.cells [(AV.int IntKind.i64 (BS.room (X6.s x))), (AV.int IntKind.i64 (((BS.came (X6.s x)) : Nat) : Int)), (AV.int IntKind.i64 (((BS.deal (X6.s x)) : Nat) : Int)), (AV.int IntKind.i64 (((BS.asked (X6.s x)) : Nat) : Int)), (q12), (AV.int IntKind.i64 (((fr13) : Nat) : Int))] 129 6 false)) ∧
 (QAt (Y7.σ y11) 0 (X6.s x) (Y7.r y11) q12 fr13))))) ∧
 (((TV.v (AV.slice 5 (cameL l) Cap.any)) = (TV.v (AV.slice 5 (cameL l) Cap.any))) ∧
 (((TV.v (AV.ptr 0 0)) = (TV.v (AV.ptr 0 0))) ∧
 (((TV.v (AV.int IntKind.i64 0)) = (TV.v (AV.int IntKind.i64 0))) ∧
 (((TV.l 7 0) = (TV.l 7 0)) ∧
 (((TV.v (AV.int IntKind.i64 (((X6.i x) : Nat) : Int))) = (TV.v (AV.int IntKind.i64 (((X6.i x) : Nat) : Int)))) ∧
 (([(AV.int IntKind.i64 (n)), (AV.slice 4 (tcellL (X6.l x)) Cap.any), (AV.int IntKind.i64 (((BS.asked (X6.s x)) : Nat) : Int))] = [(AV.int IntKind.i64 (n)), (AV.slice 4 (tcellL (X6.l x)) Cap.any), (AV.int IntKind.i64 (((BS.asked (X6.s x)) : Nat) : Int))]) ∧
 (State.Le ((cs6 n l x).4 y11) (State.untok σ'4))))))))))))))))))))))))))))))) := by kernel_rfl
def T6 (n : Int) (l : List Came) : LHand := fun _ Q a σ => ∃ x : X6, x.Mid n ∧ atF a ((ls6 n l).F x) ((ls6 n l).FL x) (x.σ.Le σ) ∧ ∀ y : Y7, BufAt y.σ 0 y.r x.s → Q .normal (frm ((ls6 n l).F x) ((ls6 n l).FL x)) y.σ
theorem vc6l (B : Nat) (w0 : World) (G : Nat → AV) (n : Int) (l : List Came) (x : X6) : (wpX [21] (EV B w0 G) (H6 (EV B w0 G)) (T6 n l) (annA 6) N6 (bodyOf (fnPart Tryz.prog [21] 6 0)) ((ls6 n l).post x) (frm ((ls6 n l).F x) ((ls6 n l).FL x)) ((ls6 n l).S x)) =
 ((bcase (decide (((((X6.i x) : Nat) : Int) : Int) < (((List.length (cameL l)) : Nat) : Int)))
 (bcase (decide (((((X6.i x) : Nat) : Int) : Int) < 150))
 ((((0 : Int) ≤ (((X6.i x) : Nat) : Int)) ∧
 (((((X6.i x) : Nat) : Int) : Int) < (((List.length (cameL l)) : Nat) : Int))) ∧
 (∃ x0 : Came, (((AV.vptr (AV.cells (List.getD (cameL l) (Int.toNat (↑(X6.i x) : Int)) AV.undef))) = (AV.vptr [(AV.bool (Came.ask x0)), (AV.int IntKind.i64 (T.k (Came.t x0))), (AV.int IntKind.i64 (T.n (Came.t x0))), (AV.str (T.s (Came.t x0))), (AV.slice 4 (tcellL (T.l (Came.t x0))) Cap.any)])) ∧
 (bcase (Came.ask x0)
 (∃ b1 : Nat, (∃ r2 : Option Nat, (∃ s3 : BS, (([(AV.ptr 0 0)] = [(AV.ptr (b1) 0)]) ∧
 (((BufAt ((ls6 n l).3 x) (b1) (r2) (s3)) ∧
 (BS.wf s3)) ∧
 (∀ r'4 : Option Nat, (∀ σ'5 : State, (((BufAt σ'5 (b1) (r'4) (Prod.snd (BS.ask s3))) ∧
 (Keeps ((ls6 n l).3 x) σ'5 (b1) (r2) (r'4))) → (∃ n6 : Int, (∃ l7 : List T, (∃ a8 : Nat, (([(AV.agg [(AV.int IntKind.i64 (n)), (AV.slice 4 (tcellL (X6.l x)) Cap.any), (AV.int IntKind.i64 (((BS.asked (X6.s x)) : Nat) : Int))])] = [(AV.agg [(AV.int IntKind.i64 (n6)), (AV.slice 4 (tcellL l7) Cap.any), (AV.int IntKind.i64 (((a8) : Nat) : Int))])]) ∧
 (((((a8) : Nat) < 20000) ∧
 (((List.length (l7)) : Nat) ≤ 20000)) ∧
 (bcase (((((BS.askN s3) : Nat) : Int) : Int) != (((a8) : Nat) : Int))
 False
 (∃ l9 : List (Nat × T), (([(dealsV (BS.askL s3)), (dealsV (askR l7 a8))] = [(dealsV l9), (dealsV l9)]) ∧
 (((((List.length (l9)) : Nat) ≤ 1) ∧
 (∀ x10 : Nat × T, ((x10 ∈ l9) → (T.small (Prod.snd x10))))) ∧
 (bcase (((BS.askE s3) : Int) != 0)
 False
 (∃ x10 : X6, ((X6.Mid x10 n) ∧
 ((((TV.v (AV.slice 5 (cameL l) Cap.any)) = (TV.v (AV.slice 5 (cameL l) Cap.any))) ∧
 (((TV.v (AV.ptr 0 0)) = (TV.v (AV.ptr 0 0))) ∧
 (((TV.v (AV.int IntKind.i64 0)) = (TV.v (AV.int IntKind.i64 0))) ∧
 (((TV.l 7 0) = (TV.l 7 0)) ∧
 (((TV.v (AV.int IntKind.i64 (((X6.i x) : Nat) : Int))) = (TV.v (AV.int IntKind.i64 (((X6.i x10) : Nat) : Int)))) ∧
 (([(AV.int IntKind.i64 (n6)), (AV.slice 4 (tcellL l7) Cap.any), (AV.int IntKind.i64 ((((a8) + 1) : Nat) : Int))] = [(AV.int IntKind.i64 (n)), (AV.slice 4 (tcellL (X6.l x10)) Cap.any), (AV.int IntKind.i64 (((BS.asked (X6.s x10)) : Nat) : Int))]) ∧
 (State.Le (x10.2) (State.untok (State.untok σ'5))))))))) ∧
 (∀ y11 : Y7, ((BufAt (y11.2) 0 (Y7.r y11) (X6.s x10)) → (∃ x'12 : X6, (((LS.I (ls6 n l) x'12) ∧
 (((LS.μ (ls6 n l) x'12) : Nat) < (LS.μ (ls6 n l) x))) ∧
 (((TV.v (AV.slice 5 (cameL l) Cap.any)) = (TV.v (AV.slice 5 (cameL l) Cap.any))) ∧
 (((TV.v (AV.ptr 0 0)) = (TV.v (AV.ptr 0 0))) ∧
 (((TV.v (AV.int IntKind.i64 0)) = (TV.v (AV.int IntKind.i64 0))) ∧
 (((TV.l 7 0) = (TV.l 7 0)) ∧
 (((TV.v (AV.int IntKind.i64 (IntKind.wrap IntKind.i64 ((((X6.i x10) : Nat) : Int) + 1)))) = (TV.v (AV.int IntKind.i64 (((X6.i x'12) : Nat) : Int)))) ∧
 (([(AV.int IntKind.i64 (n)), (AV.slice 4 (tcellL (X6.l x10)) Cap.any), (AV.int IntKind.i64 (((BS.asked (X6.s x10)) : Nat) : Int))] = [(AV.int IntKind.i64 (n)), (AV.slice 4 (tcellL (X6.l x'12)) Cap.any), (AV.int IntKind.i64 (((BS.asked (X6.s x'12)) : Nat) : Int))]) ∧
 (State.Le ((ls6 n l).3 x'12) (y11.2)))))))))))))))))))))))))))))))))
 ((((0 : Int) ≤ (((X6.i x) : Nat) : Int)) ∧
 (((((X6.i x) : Nat) : Int) : Int) < (((List.length (cameL l)) : Nat) : Int))) ∧
 (∃ x1 : Came, (((AV.vptr (AV.cells (List.getD (cameL l) (Int.toNat (↑(X6.i x) : Int)) AV.undef))) = (AV.vptr [(AV.bool (Came.ask x1)), (AV.int IntKind.i64 (T.k (Came.t x1))), (AV.int IntKind.i64 (T.n (Came.t x1))), (AV.str (T.s (Came.t x1))), (AV.slice 4 (tcellL (T.l (Came.t x1))) Cap.any)])) ∧
 (∃ b2 : Nat, (∃ r3 : Option Nat, (∃ s4 : BS, (∃ t5 : T, (([(AV.ptr 0 0), (AV.agg [(AV.int IntKind.i64 (T.k (Came.t x1))), (AV.int IntKind.i64 (T.n (Came.t x1))), (AV.str (T.s (Came.t x1))), (AV.slice 4 (tcellL (T.l (Came.t x1))) Cap.any)])] = [(AV.ptr (b2) 0), (AV.agg [(AV.int IntKind.i64 (T.k t5)), (AV.int IntKind.i64 (T.n t5)), (AV.str (T.s t5)), (AV.slice 4 (tcellL (T.l t5)) Cap.any)])]) ∧
 (((BufAt ((ls6 n l).3 x) (b2) (r3) (s4)) ∧
 (BS.wf s4)) ∧
 (∀ r'6 : Option Nat, (∀ σ'7 : State, (((BufAt σ'7 (b2) (r'6) (Prod.snd (BS.put s4 t5))) ∧
 (Keeps ((ls6 n l).3 x) σ'7 (b2) (r3) (r'6))) → ((((0 : Int) ≤ (((X6.i x) : Nat) : Int)) ∧
 (((((X6.i x) : Nat) : Int) : Int) < (((List.length (cameL l)) : Nat) : Int))) ∧
 (∃ x8 : Came, (((AV.vptr (AV.cells (List.getD (cameL l) (Int.toNat (↑(X6.i x) : Int)) AV.undef))) = (AV.vptr [(AV.bool (Came.ask x8)), (AV.int IntKind.i64 (T.k (Came.t x8))), (AV.int IntKind.i64 (T.n (Came.t x8))), (AV.str (T.s (Came.t x8))), (AV.slice 4 (tcellL (T.l (Came.t x8))) Cap.any)])) ∧
 ((∃ n9 : Int, (∃ l10 : List T, (∃ a11 : Nat, (∃ t12 : T, (([(AV.agg [(AV.int IntKind.i64 (n)), (AV.slice 4 (tcellL (X6.l x)) Cap.any), (AV.int IntKind.i64 (((BS.asked (X6.s x)) : Nat) : Int))]), (AV.agg [(AV.int IntKind.i64 (T.k (Came.t x8))), (AV.int IntKind.i64 (T.n (Came.t x8))), (AV.str (T.s (Came.t x8))), (AV.slice 4 (tcellL (T.l (Came.t x8))) Cap.any)])] = [(AV.agg [(AV.int IntKind.i64 (n9)), (AV.slice 4 (tcellL l10) Cap.any), (AV.int IntKind.i64 (((a11) : Nat) : Int))]), (AV.agg [(AV.int IntKind.i64 (T.k t12)), (AV.int IntKind.i64 (T.n t12)), (AV.str (T.s t12)), (AV.slice 4 (tcellL (T.l t12)) Cap.any)])]) ∧
 (((((T.bulk t12) : Nat) ≤ 1099511627776) ∧
 (((List.length (l10)) : Nat) < 20000)) ∧
 (((TV.v (AV.tuple [(AV.agg [(AV.int IntKind.i64 (n9)), (AV.slice 4 (tcellL (comeL l10 t12)) Cap.any), (AV.int IntKind.i64 (((a11) : Nat) : Int))]), (AV.int IntKind.i64 (if chkT t12 ≠ 0 then 0 else (↑(List.length l10) : Int))), (dealsV (comeD l10 a11 t12)), (AV.int IntKind.i64 (if chkT t12 ≠ 0 then 3 else 0))])) = (TV.v (AV.tuple [(AV.agg [(AV.int IntKind.i64 (n9)), (AV.slice 4 (tcellL (comeL l10 t12)) Cap.any), (AV.int IntKind.i64 (((a11) : Nat) : Int))]), (AV.int IntKind.i64 (if chkT t12 ≠ 0 then 0 else (↑(List.length l10) : Int))), (dealsV (comeD l10 a11 t12)), (AV.int IntKind.i64 (if chkT t12 ≠ 0 then 3 else 0))]))) ∧
 (((TV.v (AV.agg [(AV.int IntKind.i64 (n9)), (AV.slice 4 (tcellL (comeL l10 t12)) Cap.any), (AV.int IntKind.i64 (((a11) : Nat) : Int))])) = (TV.v (AV.agg [(AV.int IntKind.i64 (n9)), (AV.slice 4 (tcellL (comeL l10 t12)) Cap.any), (AV.int IntKind.i64 (((a11) : Nat) : Int))]))) ∧
 (((TV.v (AV.int IntKind.i64 (if chkT t12 ≠ 0 then 0 else (↑(List.length l10) : Int)))) = (TV.v (AV.int IntKind.i64 (if chkT t12 ≠ 0 then 0 else (↑(List.length l10) : Int))))) ∧
 (((TV.v (dealsV (comeD l10 a11 t12))) = (TV.v (dealsV (comeD l10 a11 t12)))) ∧
 (((TV.v (AV.int IntKind.i64 (if chkT t12 ≠ 0 then 3 else 0))) = (TV.v (AV.int IntKind.i64 (if chkT t12 ≠ 0 then 3 else 0)))) ∧
 (((TV.v (AV.int IntKind.i64 (if chkT t12 ≠ 0 then 0 else (↑(List.length l10) : Int)))) = (TV.v (AV.int IntKind.i64 (if chkT t12 ≠ 0 then 0 else (↑(List.length l10) : Int))))) ∧
 (((TV.v (dealsV (comeD l10 a11 t12))) = (TV.v (dealsV (comeD l10 a11 t12)))) ∧
 (((TV.v (AV.int IntKind.i64 (if chkT t12 ≠ 0 then 3 else 0))) = (TV.v (AV.int IntKind.i64 (if chkT t12 ≠ 0 then 3 else 0)))) ∧
 (bcase (((((BS.putN s4 t5) : Nat) : Int) : Int) != (if chkT t12 ≠ 0 then 0 else (↑(List.length l10) : Int)))
 False
 (∃ l13 : List (Nat × T), (([(dealsV (BS.putL s4 t5)), (dealsV (comeD l10 a11 t12))] = [(dealsV l13), (dealsV l13)]) ∧
 (((((List.length (l13)) : Nat) ≤ 1) ∧
 (∀ x14 : Nat × T, ((x14 ∈ l13) → (T.small (Prod.snd x14))))) ∧
 (bcase (((BS.putE s4 t5) : Int) != (if chkT t12 ≠ 0 then 3 else 0))
 False
 (∃ x14 : X6, ((X6.Mid x14 n) ∧
 ((((TV.v (AV.slice 5 (cameL l) Cap.any)) = (TV.v (AV.slice 5 (cameL l) Cap.any))) ∧
 (((TV.v (AV.ptr 0 0)) = (TV.v (AV.ptr 0 0))) ∧
 (((TV.v (AV.int IntKind.i64 0)) = (TV.v (AV.int IntKind.i64 0))) ∧
 (((TV.l 7 0) = (TV.l 7 0)) ∧
 (((TV.v (AV.int IntKind.i64 (((X6.i x) : Nat) : Int))) = (TV.v (AV.int IntKind.i64 (((X6.i x14) : Nat) : Int)))) ∧
 (([(AV.int IntKind.i64 (n9)), (AV.slice 4 (tcellL (comeL l10 t12)) Cap.any), (AV.int IntKind.i64 (((a11) : Nat) : Int))] = [(AV.int IntKind.i64 (n)), (AV.slice 4 (tcellL (X6.l x14)) Cap.any), (AV.int IntKind.i64 (((BS.asked (X6.s x14)) : Nat) : Int))]) ∧
 (State.Le (x14.2) (State.untok (State.untok σ'7))))))))) ∧
 (∀ y15 : Y7, ((BufAt (y15.2) 0 (Y7.r y15) (X6.s x14)) → (∃ x'16 : X6, (((LS.I (ls6 n l) x'16) ∧
 (((LS.μ (ls6 n l) x'16) : Nat) < (LS.μ (ls6 n l) x))) ∧
 (((TV.v (AV.slice 5 (cameL l) Cap.any)) = (TV.v (AV.slice 5 (cameL l) Cap.any))) ∧
 (((TV.v (AV.ptr 0 0)) = (TV.v (AV.ptr 0 0))) ∧
 (((TV.v (AV.int IntKind.i64 0)) = (TV.v (AV.int IntKind.i64 0))) ∧
 (((TV.l 7 0) = (TV.l 7 0)) ∧
 (((TV.v (AV.int IntKind.i64 (IntKind.wrap IntKind.i64 ((((X6.i x14) : Nat) : Int) + 1)))) = (TV.v (AV.int IntKind.i64 (((X6.i x'16) : Nat) : Int)))) ∧
 (([(AV.int IntKind.i64 (n)), (AV.slice 4 (tcellL (X6.l x14)) Cap.any), (AV.int IntKind.i64 (((BS.asked (X6.s x14)) : Nat) : Int))] = [(AV.int IntKind.i64 (n)), (AV.slice 4 (tcellL (X6.l x'16)) Cap.any), (AV.int IntKind.i64 (((BS.asked (X6.s x'16)) : Nat) : Int))]) ∧
 (State.Le ((ls6 n l).3 x'16) (y15.2)))))))))))))))))))))))))))))))))) ∧
 (((TV.v (AV.agg [(AV.int IntKind.i64 (n)), (AV.slice 4 (tcellL (X6.l x)) Cap.any), (AV.int IntKind.i64 (((BS.asked (X6.s x)) : Nat) : Int))])) = (TV.v (AV.agg [(AV.int IntKind.i64 (n)), (AV.slice 4 (tcellL (X6.l x)) Cap.any), (AV.int IntKind.i64 (((BS.asked (X6.s x)) : Nat) : Int))]))) ∧
 (((TV.v (AV.slice 5 (cameL l) Cap.any)) = (TV.v (AV.slice 5 (cameL l) Cap.any))) ∧
 (((TV.v (AV.int IntKind.i64 (((X6.i x) : Nat) : Int))) = (TV.v (AV.int IntKind.i64 (((X6.i x) : Nat) : Int)))) ∧
 (((((0 : Int) ≤ (((X6.i x) : Nat) : Int)) ∧
 (((((X6.i x) : Nat) : Int) : Int) < (((List.length (cameL l)) : Nat) : Int))) ∧
 (∃ x9 : Came, (((AV.vptr (AV.cells (List.getD (cameL l) (Int.toNat (↑(X6.i x) : Int)) AV.undef))) = (AV.vptr [(AV.bool (Came.ask x9)), (AV.int IntKind.i64 (T.k (Came.t x9))), (AV.int IntKind.i64 (T.n (Came.t x9))), (AV.str (T.s (Came.t x9))), (AV.slice 4 (tcellL (T.l (Came.t x9))) Cap.any)])) ∧
 ((TV.v (AV.vptr [(AV.bool (Came.ask x9)), (AV.int IntKind.i64 (T.k (Came.t x9))), (AV.int IntKind.i64 (T.n (Came.t x9))), (AV.str (T.s (Came.t x9))), (AV.slice 4 (tcellL (T.l (Came.t x9))) Cap.any)])) = (TV.v (AV.vptr [(AV.bool (Came.ask x8)), (AV.int IntKind.i64 (T.k (Came.t x8))), (AV.int IntKind.i64 (T.n (Came.t x8))), (AV.str (T.s (Came.t x8))), (AV.slice 4 (tcellL (T.l (Came.t x8))) Cap.any)])))))) ∧
 (((TV.v (AV.vptr [(AV.int IntKind.i64 (T.k (Came.t x8))), (AV.int IntKind.i64 (T.n (Came.t x8))), (AV.str (T.s (Came.t x8))), (AV.slice 4 (tcellL (T.l (Came.t x8))) Cap.any)])) = (TV.v (AV.vptr [(AV.int IntKind.i64 (T.k (Came.t x8))), (AV.int IntKind.i64 (T.n (Came.t x8))), (AV.str (T.s (Came.t x8))), (AV.slice 4 (tcellL (T.l (Came.t x8))) Cap.any)]))) ∧
 (((TV.v (AV.agg [(AV.int IntKind.i64 (T.k (Came.t x8))), (AV.int IntKind.i64 (T.n (Came.t x8))), (AV.str (T.s (Came.t x8))), (AV.slice 4 (tcellL (T.l (Came.t x8))) Cap.any)])) = (TV.v (AV.agg [(AV.int IntKind.i64 (T.k (Came.t x8))), (AV.int IntKind.i64 (T.n (Came.t x8))), (AV.str (T.s (Came.t x8))), (AV.slice 4 (tcellL (T.l (Came.t x8))) Cap.any)]))) ∧
 (∃ n9 : Int, (∃ l10 : List T, (∃ a11 : Nat, (∃ t12 : T, (([(AV.agg [(AV.int IntKind.i64 (n)), (AV.slice 4 (tcellL (X6.l x)) Cap.any), (AV.int IntKind.i64 (((BS.asked (X6.s x)) : Nat) : Int))]), (AV.agg [(AV.int IntKind.i64 (T.k (Came.t x8))), (AV.int IntKind.i64 (T.n (Came.t x8))), (AV.str (T.s (Came.t x8))), (AV.slice 4 (tcellL (T.l (Came.t x8))) Cap.any)])] = [(AV.agg [(AV.int IntKind.i64 (n9)), (AV.slice 4 (tcellL l10) Cap.any), (AV.int IntKind.i64 (((a11) : Nat) : Int))]), (AV.agg [(AV.int IntKind.i64 (T.k t12)), (AV.int IntKind.i64 (T.n t12)), (AV.str (T.s t12)), (AV.slice 4 (tcellL (T.l t12)) Cap.any)])]) ∧
 (((((T.bulk t12) : Nat) ≤ 1099511627776) ∧
 (((List.length (l10)) : Nat) < 20000)) ∧
 (((TV.v (AV.int IntKind.i64 (if chkT t12 ≠ 0 then 0 else (↑(List.length l10) : Int)))) = (TV.v (AV.int IntKind.i64 (if chkT t12 ≠ 0 then 0 else (↑(List.length l10) : Int))))) ∧
 (((TV.v (dealsV (comeD l10 a11 t12))) = (TV.v (dealsV (comeD l10 a11 t12)))) ∧
 (((TV.v (AV.int IntKind.i64 (if chkT t12 ≠ 0 then 3 else 0))) = (TV.v (AV.int IntKind.i64 (if chkT t12 ≠ 0 then 3 else 0)))) ∧
 (bcase (((((BS.putN s4 t5) : Nat) : Int) : Int) != (if chkT t12 ≠ 0 then 0 else (↑(List.length l10) : Int)))
 False
 (∃ l13 : List (Nat × T), (([(dealsV (BS.putL s4 t5)), (dealsV (comeD l10 a11 t12))] = [(dealsV l13), (dealsV l13)]) ∧
 (((((List.length (l13)) : Nat) ≤ 1) ∧
 (∀ x14 : Nat × T, ((x14 ∈ l13) → (T.small (Prod.snd x14))))) ∧
 (bcase (((BS.putE s4 t5) : Int) != (if chkT t12 ≠ 0 then 3 else 0))
 False
 (∃ x14 : X6, ((X6.Mid x14 n) ∧
 ((((TV.v (AV.slice 5 (cameL l) Cap.any)) = (TV.v (AV.slice 5 (cameL l) Cap.any))) ∧
 (((TV.v (AV.ptr 0 0)) = (TV.v (AV.ptr 0 0))) ∧
 (((TV.v (AV.int IntKind.i64 0)) = (TV.v (AV.int IntKind.i64 0))) ∧
 (((TV.l 7 0) = (TV.l 7 0)) ∧
 (((TV.v (AV.int IntKind.i64 (((X6.i x) : Nat) : Int))) = (TV.v (AV.int IntKind.i64 (((X6.i x14) : Nat) : Int)))) ∧
 (([(AV.int IntKind.i64 (n9)), (AV.slice 4 (tcellL (comeL l10 t12)) Cap.any), (AV.int IntKind.i64 (((a11) : Nat) : Int))] = [(AV.int IntKind.i64 (n)), (AV.slice 4 (tcellL (X6.l x14)) Cap.any), (AV.int IntKind.i64 (((BS.asked (X6.s x14)) : Nat) : Int))]) ∧
 (State.Le (x14.2) (State.untok (State.untok σ'7))))))))) ∧
 (∀ y15 : Y7, ((BufAt (y15.2) 0 (Y7.r y15) (X6.s x14)) → (∃ x'16 : X6, (((LS.I (ls6 n l) x'16) ∧
 (((LS.μ (ls6 n l) x'16) : Nat) < (LS.μ (ls6 n l) x))) ∧
 (((TV.v (AV.slice 5 (cameL l) Cap.any)) = (TV.v (AV.slice 5 (cameL l) Cap.any))) ∧
 (((TV.v (AV.ptr 0 0)) = (TV.v (AV.ptr 0 0))) ∧
 (((TV.v (AV.int IntKind.i64 0)) = (TV.v (AV.int IntKind.i64 0))) ∧
 (((TV.l 7 0) = (TV.l 7 0)) ∧
 (((TV.v (AV.int IntKind.i64 (IntKind.wrap IntKind.i64 ((((X6.i x14) : Nat) : Int) + 1)))) = (TV.v (AV.int IntKind.i64 (((X6.i x'16) : Nat) : Int)))) ∧
 (([(AV.int IntKind.i64 (n)), (AV.slice 4 (tcellL (X6.l x14)) Cap.any), (AV.int IntKind.i64 (((BS.asked (X6.s x14)) : Nat) : Int))] = [(AV.int IntKind.i64 (n)), (AV.slice 4 (tcellL (X6.l x'16)) Cap.any), (AV.int IntKind.i64 (((BS.asked (X6.s x'16)) : Nat) : Int))]) ∧
 (State.Le ((ls6 n l).3 x'16) (y15.2)))))))))))))))))))))))))))))))))))))))))))))))))))))))
 True)
 True)) := by kernel_rfl
/-- The loop, when there is no buffer. -/
def ls6e (l : List Came) : LS Unit where
  F _ := [(1, .v (.slice 5 (cameL l) .any)), (6, .v (.int .i64 1)), (9, .v (.int .i64 0))]
  FL _ := []
  S _ := noObj
  I _ := True
  μ _ := 0
  Ex _ e a σ := match e with
    | .exit 0 => True
    | _ => False
theorem vc6e (B : Nat) (w0 : World) (G : Nat → AV) (l : List Came) : (wpX [21] (EV B w0 G) (H6 (EV B w0 G)) (fun _ _ _ _ => False) (annA 6) N6 (bodyOf (fnPart Tryz.prog [21] 6 0)) ((ls6e l).post ()) (frm ((ls6e l).F ()) ((ls6e l).FL ())) ((ls6e l).S ())) =
 ((bcase (decide ((0 : Int) < (((List.length (cameL l)) : Nat) : Int)))
 True
 True)) := by kernel_rfl
def L6 (n : Int) (l : List Came) : LHand := fun _ Q a σ => (((0 : Int) ≤ n ∧ n ≤ (1000 : Int)) ∧ ∃ x : X6, x.Inv n ∧ atF a ((ls6 n l).F x) ((ls6 n l).FL x) (x.σ.Le σ) ∧ ∀ σ2 : State, Q (.exit 0) (frm [] []) σ2) ∨
  ((n < (0 : Int) ∨ n > (1000 : Int)) ∧ atF a ((ls6e l).F ()) [] (noObj.Le σ) ∧ ∀ σ2 : State, Q (.exit 0) (frm [] []) σ2)
theorem vc6 (B : Nat) (w0 : World) (G : Nat → AV) (n : Int) (l : List Came) (Q : AV → State → Prop) : (bodyC (EV B w0 G) (H6 (EV B w0 G)) (L6 n l) annA noHint 6 [.int .i64 n, .slice 5 (cameL l) .any] noObj Q) =
 (((([] : List AV) = []) ∧
 (bcase (decide (((n) : Int) < 0))
 (∃ n0 : Int, (([(AV.int IntKind.i64 (n))] = [(AV.int IntKind.i64 (n0))]) ∧
 (((((0 : Int) ≤ (n0)) ∧
 (((n0) : Int) ≤ 1000)) → (Q (AV.bool false) (State.untok (State.untok (noObj))))) ∧
 (((((0 : Int) ≤ (n0)) ∧
 (((n0) : Int) ≤ 1000)) → False) → (((((0 : Int) ≤ (n)) ∧
 (((n) : Int) ≤ 1000)) ∧
 (∃ x1 : X6, ((X6.Inv x1 n) ∧
 ((((TV.v (AV.slice 5 (cameL l) Cap.any)) = (TV.v (AV.slice 5 (cameL l) Cap.any))) ∧
 (((TV.v AV.nilptr) = (TV.v (AV.ptr 0 0))) ∧
 (((TV.v (AV.int IntKind.i64 1)) = (TV.v (AV.int IntKind.i64 0))) ∧
 (((TV.l 7 0) = (TV.l 7 0)) ∧
 (((TV.v (AV.int IntKind.i64 0)) = (TV.v (AV.int IntKind.i64 (((X6.i x1) : Nat) : Int)))) ∧
 (([(AV.int IntKind.i64 0), (AV.slice 4 [] Cap.any), (AV.int IntKind.i64 0)] = [(AV.int IntKind.i64 (n)), (AV.slice 4 (tcellL (X6.l x1)) Cap.any), (AV.int IntKind.i64 (((BS.asked (X6.s x1)) : Nat) : Int))]) ∧
 (State.Le (x1.2) (State.untok (State.untok (noObj)))))))))) ∧
 (∀ σ22 : State, (Q (AV.bool true) σ22)))))) ∨ (((((n) : Int) < 0) ∨ (((n) : Int) > 1000)) ∧
 ((((TV.v (AV.slice 5 (cameL l) Cap.any)) = (TV.v (AV.slice 5 (cameL l) Cap.any))) ∧
 (((TV.v (AV.int IntKind.i64 1)) = (TV.v (AV.int IntKind.i64 1))) ∧
 (((TV.v (AV.int IntKind.i64 0)) = (TV.v (AV.int IntKind.i64 0))) ∧
 (State.Le (noObj) (State.untok (State.untok (noObj))))))) ∧
 (∀ σ21 : State, (Q (AV.bool true) σ21)))))))))
 (bcase (decide (((n) : Int) > 1000))
 (∃ n0 : Int, (([(AV.int IntKind.i64 (n))] = [(AV.int IntKind.i64 (n0))]) ∧
 (((((0 : Int) ≤ (n0)) ∧
 (((n0) : Int) ≤ 1000)) → (Q (AV.bool false) (State.untok (State.untok (noObj))))) ∧
 (((((0 : Int) ≤ (n0)) ∧
 (((n0) : Int) ≤ 1000)) → False) → (((((0 : Int) ≤ (n)) ∧
 (((n) : Int) ≤ 1000)) ∧
 (∃ x1 : X6, ((X6.Inv x1 n) ∧
 ((((TV.v (AV.slice 5 (cameL l) Cap.any)) = (TV.v (AV.slice 5 (cameL l) Cap.any))) ∧
 (((TV.v AV.nilptr) = (TV.v (AV.ptr 0 0))) ∧
 (((TV.v (AV.int IntKind.i64 1)) = (TV.v (AV.int IntKind.i64 0))) ∧
 (((TV.l 7 0) = (TV.l 7 0)) ∧
 (((TV.v (AV.int IntKind.i64 0)) = (TV.v (AV.int IntKind.i64 (((X6.i x1) : Nat) : Int)))) ∧
 (([(AV.int IntKind.i64 0), (AV.slice 4 [] Cap.any), (AV.int IntKind.i64 0)] = [(AV.int IntKind.i64 (n)), (AV.slice 4 (tcellL (X6.l x1)) Cap.any), (AV.int IntKind.i64 (((BS.asked (X6.s x1)) : Nat) : Int))]) ∧
 (State.Le (x1.2) (State.untok (State.untok (noObj)))))))))) ∧
 (∀ σ22 : State, (Q (AV.bool true) σ22)))))) ∨ (((((n) : Int) < 0) ∨ (((n) : Int) > 1000)) ∧
 ((((TV.v (AV.slice 5 (cameL l) Cap.any)) = (TV.v (AV.slice 5 (cameL l) Cap.any))) ∧
 (((TV.v (AV.int IntKind.i64 1)) = (TV.v (AV.int IntKind.i64 1))) ∧
 (((TV.v (AV.int IntKind.i64 0)) = (TV.v (AV.int IntKind.i64 0))) ∧
 (State.Le (noObj) (State.untok (State.untok (noObj))))))) ∧
 (∀ σ21 : State, (Q (AV.bool true) σ21)))))))))
 (∃ n0 : Int, (([(AV.int IntKind.i64 (n))] = [(AV.int IntKind.i64 (n0))]) ∧
 (((((0 : Int) ≤ (n0)) ∧
 (((n0) : Int) ≤ 1000)) → (((((0 : Int) ≤ (n)) ∧
 (((n) : Int) ≤ 1000)) ∧
 (∃ x1 : X6, ((X6.Inv x1 n) ∧
 ((((TV.v (AV.slice 5 (cameL l) Cap.any)) = (TV.v (AV.slice 5 (cameL l) Cap.any))) ∧
 (((TV.v (AV.ptr 0 0)) = (TV.v (AV.ptr 0 0))) ∧
 (((TV.v (AV.int IntKind.i64 0)) = (TV.v (AV.int IntKind.i64 0))) ∧
 (((TV.l 7 0) = (TV.l 7 0)) ∧
 (((TV.v (AV.int IntKind.i64 0)) = (TV.v (AV.int IntKind.i64 (((X6.i x1) : Nat) : Int)))) ∧
 (([(AV.int IntKind.i64 (n0)), (AV.slice 4 [] Cap.any), (AV.int IntKind.i64 0)] = [(AV.int IntKind.i64 (n)), (AV.slice 4 (tcellL (X6.l x1)) Cap.any), (AV.int IntKind.i64 (((BS.asked (X6.s x1)) : Nat) : Int))]) ∧
 (State.Le (x1.2) (State.untok (State.new (State.untok (noObj)) (AObj.cells [(AV.int IntKind.i64 (n)), (AV.int IntKind.i64 0), (AV.int IntKind.i64 0), (AV.int IntKind.i64 0), AV.nilslice, (AV.int IntKind.i64 0)] 129 6 false)))))))))) ∧
 (∀ σ22 : State, (Q (AV.bool true) σ22)))))) ∨ (((((n) : Int) < 0) ∨ (((n) : Int) > 1000)) ∧
 ((((TV.v (AV.slice 5 (cameL l) Cap.any)) = (TV.v (AV.slice 5 (cameL l) Cap.any))) ∧
 (((TV.v (AV.int IntKind.i64 0)) = (TV.v (AV.int IntKind.i64 1))) ∧
 (((TV.v (AV.int IntKind.i64 0)) = (TV.v (AV.int IntKind.i64 0))) ∧
 (State.Le (noObj) (State.untok (State.new (State.untok (noObj)) (AObj.cells [(AV.int IntKind.i64 (n)), (AV.int IntKind.i64 0), (AV.int IntKind.i64 0), (AV.int IntKind.i64 0), AV.nilslice, (AV.int IntKind.i64 0)] 129 6 false))))))) ∧
 (∀ σ21 : State, (Q (AV.bool true) σ21)))))) ∧
 (((((0 : Int) ≤ (n0)) ∧
 (((n0) : Int) ≤ 1000)) → False) → (Q (AV.bool false) (State.untok (State.new (State.untok (noObj)) (AObj.cells [(AV.int IntKind.i64 (n)), (AV.int IntKind.i64 0), (AV.int IntKind.i64 0), (AV.int IntKind.i64 0), AV.nilslice, (AV.int IntKind.i64 0)] 129 6 false)))))))))))) := by kernel_rfl
end Go.V
