/- Conditions: copies of terms. -/
import Derived.Test.YtgnjidopnplbbaaGreatDoorP3
set_option maxRecDepth 1000000
set_option linter.unusedVariables false
namespace Go.V
open Go Go.Proofs

def C68 (N : Nat) : Contract := fun args σ K => ∃ (t : T), args = [.agg (tc t)] ∧ (t.small ∧ SizeOf.sizeOf t < N) ∧ K (.agg (tc t)) σ.untok
def N68 : FnHint := fun id i => match Nat.beq id 4 && Nat.beq i 2 with
  | true => Hint.as (fun t : T => .agg (tc t))
  | false => symAt [(4, 1), (5, 5), (5, 6)] id i
def NN68 (f : Nat) : FnHint := match Nat.beq f 107 with
  | true => symAt [(3, 2)]
  | false => noHint
def H68 (E : Env) (N : Nat) : Hand := hnd E annA NN68 [(68, C68 N)]
def row68 (t : T) : AObj := .cells (flat (tcellL t.l)) 37 4 true
def own68 (t : T) : List AV := [.int .i64 t.k, .int .i64 t.n, .str t.s, .rslice 0 0 (tcellL t.l).length]
def none68 : List AV := [.int .i64 0, .int .i64 0, .str ⟨⟨[]⟩⟩, .nilslice]
def li68 (t : T) : LI Nat where
  F i := [(1, .l 1 0), (2, .l 2 0), (10, .v (.rslice 0 0 (tcellL t.l).length)), (11, .v (.int .i64 (tcellL t.l).length)), (12, .v (.int .i64 i))]
  FL _ := [(1, own68 t), (2, none68)]
  L _ := [row68 t]
  m _ := 1
  I i := i ≤ t.l.length
  μ i := t.l.length - i
  Ex _ e a σ := match e with
    | .exit 0 => atFS a σ [(1, .l 1 0), (2, .l 2 0)] [(1, own68 t), (2, none68)] [row68 t] 1
    | _ => False
theorem fnLoops_68 : fnLoops Tryz.prog 68 = [.loop (lbody Tryz.prog 68 0)] := by kernel_rfl
theorem vc68l (B : Nat) (w0 : World) (G : Nat → AV) (N : Nat) (t : T) (i : Nat) : (wpC (EV B w0 G) (H68 (EV B w0 G) N) (fun _ _ _ _ => False) (annA 68) N68 (lbody Tryz.prog 68 0) ((li68 t).post i) (frm ((li68 t).F i) ((li68 t).FL i)) (lst ((li68 t).L i) ((li68 t).m i))) =
 ((bcase (decide ((↑i : Int) < (↑(List.length (tcellL (T.l t))) : Int)))
 (((0 ≤ (↑i : Int)) ∧
 ((↑i : Int) < (↑(List.length (tcellL (T.l t))) : Int))) ∧
 (((0 + Int.toNat (↑i : Int)) * 4 + 4 ≤ List.length (flat (tcellL (T.l t)))) ∧
 (∃ x0 : T, (((AV.agg (List.take 4 (List.drop ((0 + Int.toNat (↑i : Int)) * 4) (flat (tcellL (T.l t)))))) = (AV.agg [(AV.int IntKind.i64 (T.k x0)), (AV.int IntKind.i64 (T.n x0)), (AV.str (T.s x0)), (AV.slice 4 (tcellL (T.l x0)) Cap.any)])) ∧
 (∃ t1 : T, (([(AV.agg [(AV.int IntKind.i64 (T.k x0)), (AV.int IntKind.i64 (T.n x0)), (AV.str (T.s x0)), (AV.slice 4 (tcellL (T.l x0)) Cap.any)])] = [(AV.agg [(AV.int IntKind.i64 (T.k t1)), (AV.int IntKind.i64 (T.n t1)), (AV.str (T.s t1)), (AV.slice 4 (tcellL (T.l t1)) Cap.any)])]) ∧
 (((T.small t1) ∧
 (SizeOf.sizeOf t1 < N)) ∧
 (((0 ≤ (↑i : Int)) ∧
 ((↑i : Int) < (↑(List.length (tcellL (T.l t))) : Int))) ∧
 (((TV.l 1 3) = (TV.l 1 3)) ∧
 (((TV.v (AV.rslice 0 0 (List.length (tcellL (T.l t))))) = (TV.v (AV.rslice 0 0 (List.length (tcellL (T.l t)))))) ∧
 (((TV.v (AV.int IntKind.i64 ((↑i : Int)))) = (TV.v (AV.int IntKind.i64 ((↑i : Int))))) ∧
 (((0 + Int.toNat (↑i : Int)) * 4 + 4 ≤ List.length (flat (tcellL (T.l t)))) ∧
 (∃ x'2 : Nat, (((LI.I (li68 t) x'2) ∧
 (LI.μ (li68 t) x'2 < LI.μ (li68 t) i)) ∧
 (((TV.l 1 0) = (TV.l 1 0)) ∧
 (((TV.l 2 0) = (TV.l 2 0)) ∧
 (((TV.v (AV.rslice 0 0 (List.length (tcellL (T.l t))))) = (TV.v (AV.rslice 0 0 (List.length (tcellL (T.l t)))))) ∧
 (((TV.v (AV.int IntKind.i64 ((↑(List.length (tcellL (T.l t))) : Int)))) = (TV.v (AV.int IntKind.i64 ((↑(List.length (tcellL (T.l t))) : Int))))) ∧
 (((TV.v (AV.int IntKind.i64 (IntKind.wrap IntKind.i64 ((↑i : Int) + 1)))) = (TV.v (AV.int IntKind.i64 ((↑x'2 : Int))))) ∧
 (([(AV.int IntKind.i64 (T.k t)), (AV.int IntKind.i64 (T.n t)), (AV.str (T.s t)), (AV.rslice 0 0 (List.length (tcellL (T.l t))))] = [(AV.int IntKind.i64 (T.k t)), (AV.int IntKind.i64 (T.n t)), (AV.str (T.s t)), (AV.rslice 0 0 (List.length (tcellL (T.l t))))]) ∧
 (([(AV.int IntKind.i64 0), (AV.int IntKind.i64 0), (AV.str ⟨⟨[]⟩⟩), AV.nilslice] = [(AV.int IntKind.i64 0), (AV.int IntKind.i64 0), (AV.str ⟨⟨[]⟩⟩), AV.nilslice]) ∧
 ((1 = 1) ∧
 (((AObj.cells (asplice (flat (tcellL (T.l t))) ((0 + Int.toNat (↑i : Int)) * 4) [(AV.int IntKind.i64 (T.k t1)), (AV.int IntKind.i64 (T.n t1)), (AV.str (T.s t1)), (AV.slice 4 (tcellL (T.l t1)) Cap.any)]) 37 4 true) = (AObj.cells (flat (tcellL (T.l t))) 37 4 true)) ∧
 True)))))))))))))))))))))))
 (((TV.l 1 0) = (TV.l 1 0)) ∧
 (((TV.l 2 0) = (TV.l 2 0)) ∧
 (([(AV.int IntKind.i64 (T.k t)), (AV.int IntKind.i64 (T.n t)), (AV.str (T.s t)), (AV.rslice 0 0 (List.length (tcellL (T.l t))))] = [(AV.int IntKind.i64 (T.k t)), (AV.int IntKind.i64 (T.n t)), (AV.str (T.s t)), (AV.rslice 0 0 (List.length (tcellL (T.l t))))]) ∧
 (([(AV.int IntKind.i64 0), (AV.int IntKind.i64 0), (AV.str ⟨⟨[]⟩⟩), AV.nilslice] = [(AV.int IntKind.i64 0), (AV.int IntKind.i64 0), (AV.str ⟨⟨[]⟩⟩), AV.nilslice]) ∧
 ((1 = 1) ∧
 (((AObj.cells (flat (tcellL (T.l t))) 37 4 true) = (AObj.cells (flat (tcellL (T.l t))) 37 4 true)) ∧
 True)))))))) := by kernel_rfl
def L68 (t : T) : LHand := fun _ Q a σ => atFS a σ ((li68 t).F 0) ((li68 t).FL 0) [row68 t] 1 ∧
  Q (.exit 0) (frm [(1, .l 1 0), (2, .l 2 0)] [(1, own68 t), (2, none68)]) (lst [row68 t] 1)
theorem vc68 (B : Nat) (w0 : World) (G : Nat → AV) (N : Nat) (t : T) (Q : AV → State → Prop) : (bodyC (EV B w0 G) (H68 (EV B w0 G) N) (L68 t) annA N68 68 [.agg [.int .i64 t.k, .int .i64 t.n, .str t.s, .slice 4 (tcellL t.l) .nn]] noObj Q) =
 ((bcase (List.isEmpty (tcellL (T.l t)))
 ((((TV.l 1 0) = (TV.l 1 0)) ∧
 (((TV.l 2 0) = (TV.l 2 0)) ∧
 (((TV.v (AV.slice 4 [] Cap.full)) = (TV.v (AV.rslice 0 0 (List.length (tcellL (T.l t)))))) ∧
 (((TV.v (AV.int IntKind.i64 0)) = (TV.v (AV.int IntKind.i64 ((↑(List.length (tcellL (T.l t))) : Int))))) ∧
 (((TV.v (AV.int IntKind.i64 0)) = (TV.v (AV.int IntKind.i64 0))) ∧
 (([(AV.int IntKind.i64 (T.k t)), (AV.int IntKind.i64 (T.n t)), (AV.str (T.s t)), (AV.slice 4 [] Cap.full)] = [(AV.int IntKind.i64 (T.k t)), (AV.int IntKind.i64 (T.n t)), (AV.str (T.s t)), (AV.rslice 0 0 (List.length (tcellL (T.l t))))]) ∧
 (([(AV.int IntKind.i64 0), (AV.int IntKind.i64 0), (AV.str ⟨⟨[]⟩⟩), AV.nilslice] = [(AV.int IntKind.i64 0), (AV.int IntKind.i64 0), (AV.str ⟨⟨[]⟩⟩), AV.nilslice]) ∧
 ((0 = 1) ∧
 ((AObj.dead = (AObj.cells (flat (tcellL (T.l t))) 37 4 true)) ∧
 True))))))))) ∧
 (Q (AV.agg [(AV.int IntKind.i64 (T.k t)), (AV.int IntKind.i64 (T.n t)), (AV.str (T.s t)), (AV.rslice 0 0 (List.length (tcellL (T.l t))))]) (lst [row68 t] 1)))
 ((((0 + List.length (tcellL (T.l t))) * 56 ≤ 140737488355328) ∧
 (0 + List.length (tcellL (T.l t)) ≤ 4611686018427387904)) ∧
 ((((TV.l 1 0) = (TV.l 1 0)) ∧
 (((TV.l 2 0) = (TV.l 2 0)) ∧
 (((TV.v (AV.rslice 0 0 (List.length ([] ++ tcellL (T.l t))))) = (TV.v (AV.rslice 0 0 (List.length (tcellL (T.l t)))))) ∧
 (((TV.v (AV.int IntKind.i64 ((↑(List.length ([] ++ tcellL (T.l t))) : Int)))) = (TV.v (AV.int IntKind.i64 ((↑(List.length (tcellL (T.l t))) : Int))))) ∧
 (((TV.v (AV.int IntKind.i64 0)) = (TV.v (AV.int IntKind.i64 0))) ∧
 (([(AV.int IntKind.i64 (T.k t)), (AV.int IntKind.i64 (T.n t)), (AV.str (T.s t)), (AV.rslice 0 0 (List.length ([] ++ tcellL (T.l t))))] = [(AV.int IntKind.i64 (T.k t)), (AV.int IntKind.i64 (T.n t)), (AV.str (T.s t)), (AV.rslice 0 0 (List.length (tcellL (T.l t))))]) ∧
 (([(AV.int IntKind.i64 0), (AV.int IntKind.i64 0), (AV.str ⟨⟨[]⟩⟩), AV.nilslice] = [(AV.int IntKind.i64 0), (AV.int IntKind.i64 0), (AV.str ⟨⟨[]⟩⟩), AV.nilslice]) ∧
 ((1 = 1) ∧
 (((AObj.cells (flat ([] ++ (tcellL (T.l t)))) 37 4 true) = (AObj.cells (flat (tcellL (T.l t))) 37 4 true)) ∧
 True))))))))) ∧
 (Q (AV.agg [(AV.int IntKind.i64 (T.k t)), (AV.int IntKind.i64 (T.n t)), (AV.str (T.s t)), (AV.rslice 0 0 (List.length (tcellL (T.l t))))]) (lst [row68 t] 1)))))) := by kernel_rfl
theorem vc68nil (B : Nat) (w0 : World) (G : Nat → AV) (N : Nat) (t : T) (Q : AV → State → Prop) : (bodyC (EV B w0 G) (H68 (EV B w0 G) N) (loopC (EV B w0 G) (H68 (EV B w0 G) N) 68 none (fnTmps Tryz.prog 68) (annA 68) noHint 5) annA noHint 68 [.agg [.int .i64 t.k, .int .i64 t.n, .str t.s, .nilslice]] noObj Q) =
 ((Q (AV.agg [(AV.int IntKind.i64 (T.k t)), (AV.int IntKind.i64 (T.n t)), (AV.str (T.s t)), AV.nilslice]) (noObj))) := by kernel_rfl
theorem vc68emp (B : Nat) (w0 : World) (G : Nat → AV) (N : Nat) (t : T) (Q : AV → State → Prop) : (bodyC (EV B w0 G) (H68 (EV B w0 G) N) (loopC (EV B w0 G) (H68 (EV B w0 G) N) 68 none (fnTmps Tryz.prog 68) (annA 68) noHint 5) annA noHint 68 [.agg [.int .i64 t.k, .int .i64 t.n, .str t.s, .slice 4 [] .nn]] noObj Q) =
 ((Q (AV.agg [(AV.int IntKind.i64 (T.k t)), (AV.int IntKind.i64 (T.n t)), (AV.str (T.s t)), (AV.slice 4 [] Cap.full)]) (noObj))) := by kernel_rfl
end Go.V
