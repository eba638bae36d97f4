/- Conditions: the law StreamSizes. -/
import Derived.Test.YtgnjidopnplbbaaGreatDoorB4
import Derived.Test.YtgnjidopnplbbaaGreatDoorW7
set_option maxRecDepth 1000000
set_option linter.unusedVariables false
namespace Go.V
open Go Go.Proofs

theorem vc23nil (B : Nat) (w0 : World) (G : Nat → AV) (N : Nat) (Q : AV → State → Prop) : (bodyC (EV B w0 G) (H33 (EV B w0 G) N) (loopC (EV B w0 G) (H33 (EV B w0 G) N) 23 none (fnTmps Tryz.prog 23) (annA 23) noHint 5) annA noHint 23 [.nilslice, .nilslice] noObj Q) =
 ((Q (AV.bool true) (noObj))) := by kernel_rfl
theorem vc23one (B : Nat) (w0 : World) (G : Nat → AV) (N : Nat) (k : Nat) (t : T) (Q : AV → State → Prop) : (bodyC (EV B w0 G) (H33 (EV B w0 G) N) (loopC (EV B w0 G) (H33 (EV B w0 G) N) 23 none (fnTmps Tryz.prog 23) (annA 23) noHint 5) annA noHint 23 [.slice 6 [dealV k t] .full, .slice 6 [dealV k t] .full] noObj Q) =
 ((bcase (((((k) : Nat) : Int) : Int) != (((k) : Nat) : Int))
 (Q (AV.bool false) (noObj))
 (bcase (((((k) : Nat) : Int) : Int) != (((k) : Nat) : Int))
 (Q (AV.bool false) (noObj))
 (∃ a0 : T, (∃ b1 : T, (([(AV.agg [(AV.int IntKind.i64 (T.k t)), (AV.int IntKind.i64 (T.n t)), (AV.str (T.s t)), (AV.slice 4 (tcellL (T.l t)) Cap.any)]), (AV.agg [(AV.int IntKind.i64 (T.k t)), (AV.int IntKind.i64 (T.n t)), (AV.str (T.s t)), (AV.slice 4 (tcellL (T.l t)) Cap.any)])] = [(AV.agg [(AV.int IntKind.i64 (T.k a0)), (AV.int IntKind.i64 (T.n a0)), (AV.str (T.s a0)), (AV.slice 4 (tcellL (T.l a0)) Cap.any)]), (AV.agg [(AV.int IntKind.i64 (T.k b1)), (AV.int IntKind.i64 (T.n b1)), (AV.str (T.s b1)), (AV.slice 4 (tcellL (T.l b1)) Cap.any)])]) ∧
 (((T.small a0) ∧
 (((SizeOf.sizeOf a0) : Nat) < (N))) ∧
 (bcase (!(same a0 b1))
 (Q (AV.bool false) (State.untok (noObj)))
 (Q (AV.bool true) (State.untok (noObj))))))))))) := by kernel_rfl
def C23 : Contract := fun args σ K => ∃ (l : List (Nat × T)), args = [dealsV l, dealsV l] ∧ (l.length ≤ 1 ∧ ∀ x ∈ l, x.2.small) ∧ K (.bool true) σ.untok
def C16 : Contract := fun args σ K => args = [] ∧ K (.bool true) σ.untok
def H4 (E : Env) : Hand := hnd E annA noHints [(16, C16), (22, C22), (24, C24), (23, C23)]

/-- What comes to a buffer. -/
structure Came where
  ask : Bool
  t : T
def cc (c : Came) : List AV := .bool c.ask :: tc c.t
def cameL (l : List Came) : List AV := l.map fun c => .agg (cc c)
def N4 : FnHint := fun id i => match (Nat.beq id 12 && Nat.beq i 2) || ((Nat.beq id 17 || Nat.beq id 18) && Nat.beq i 3) with
  | true => Hint.as (fun c : Came => .vptr (cc c))
  | false => Hint.no

structure X4 where
  i : Nat
  σ : State
  ra : Option Nat
  rb : Option Nat
  s : BS
  r2 : Int
def X4.sb (x : X4) : BS := { x.s with room := x.r2 }
structure X4.Inv (x : X4) : Prop where
  i : x.i ≤ 150
  wf : x.s.wf
  a : BufAt x.σ 0 x.ra x.s
  b : BufAt x.σ 1 x.rb x.sb
  ra1 : x.ra ≠ some 1
  rb0 : x.rb ≠ some 0
  ne : ∀ j, x.ra = some j → x.rb ≠ some j
def ls4 (l : List Came) : LS X4 where
  F x := [(2, .v (.slice 5 (cameL l) .any)), (7, .v (.ptr 0 0)), (9, .v (.ptr 1 0)), (11, .v (.int .i64 x.i))]
  FL _ := []
  S x := x.σ
  I x := x.Inv
  μ x := 150 - x.i
  Ex _ e a σ := match e with
    | .exit 0 => True
    | _ => False
theorem fnLoops_4 : fnLoops Tryz.prog 4 = [.loop (lbody Tryz.prog 4 0)] := by kernel_rfl
theorem vc4l (B : Nat) (w0 : World) (G : Nat → AV) (l : List Came) (x : X4) : (wpC (EV B w0 G) (H4 (EV B w0 G)) (fun _ _ _ _ => False) (annA 4) N4 (lbody Tryz.prog 4 0) ((ls4 l).post x) (frm ((ls4 l).F x) ((ls4 l).FL x)) ((ls4 l).S x)) =
 ((bcase (decide (((((X4.i x) : Nat) : Int) : Int) < (((List.length (cameL l)) : Nat) : Int)))
 (bcase (decide (((((X4.i x) : Nat) : Int) : Int) < 150))
 ((((0 : Int) ≤ (((X4.i x) : Nat) : Int)) ∧
 (((((X4.i x) : Nat) : Int) : Int) < (((List.length (cameL l)) : Nat) : Int))) ∧
 (∃ x0 : Came, (((AV.vptr (AV.cells (List.getD (cameL l) (Int.toNat (↑(X4.i x) : Int)) AV.undef))) = (AV.vptr [(AV.bool (Came.ask x0)), (AV.int IntKind.i64 (T.k (Came.t x0))), (AV.int IntKind.i64 (T.n (Came.t x0))), (AV.str (T.s (Came.t x0))), (AV.slice 4 (tcellL (T.l (Came.t x0))) Cap.any)])) ∧
 (bcase (Came.ask x0)
 (∃ b1 : Nat, (∃ r2 : Option Nat, (∃ s3 : BS, (([(AV.ptr 0 0)] = [(AV.ptr (b1) 0)]) ∧
 (((BufAt ((ls4 l).3 x) (b1) (r2) (s3)) ∧
 (BS.wf s3)) ∧
 (∀ r'4 : Option Nat, (∀ σ'5 : State, (((BufAt σ'5 (b1) (r'4) (Prod.snd (BS.ask s3))) ∧
 (Keeps ((ls4 l).3 x) σ'5 (b1) (r2) (r'4))) → (∃ b6 : Nat, (∃ r7 : Option Nat, (∃ s8 : BS, (([(AV.ptr 1 0)] = [(AV.ptr (b6) 0)]) ∧
 (((BufAt σ'5 (b6) (r7) (s8)) ∧
 (BS.wf s8)) ∧
 (∀ r'9 : Option Nat, (∀ σ'10 : State, (((BufAt σ'10 (b6) (r'9) (Prod.snd (BS.ask s8))) ∧
 (Keeps σ'5 σ'10 (b6) (r7) (r'9))) → (bcase (((((BS.askN s3) : Nat) : Int) : Int) != (((BS.askN s8) : Nat) : Int))
 False
 (∃ l11 : List (Nat × T), (([(dealsV (BS.askL s3)), (dealsV (BS.askL s8))] = [(dealsV l11), (dealsV l11)]) ∧
 (((((List.length (l11)) : Nat) ≤ 1) ∧
 (∀ x12 : Nat × T, ((x12 ∈ l11) → (T.small (Prod.snd x12))))) ∧
 (bcase (((BS.askE s3) : Int) != (BS.askE s8))
 False
 (∃ x'12 : X4, (((LS.I (ls4 l) x'12) ∧
 (((LS.μ (ls4 l) x'12) : Nat) < (LS.μ (ls4 l) x))) ∧
 (((TV.v (AV.slice 5 (cameL l) Cap.any)) = (TV.v (AV.slice 5 (cameL l) Cap.any))) ∧
 (((TV.v (AV.ptr 0 0)) = (TV.v (AV.ptr 0 0))) ∧
 (((TV.v (AV.ptr 1 0)) = (TV.v (AV.ptr 1 0))) ∧
 (((TV.v (AV.int IntKind.i64 (IntKind.wrap IntKind.i64 ((((X4.i x) : Nat) : Int) + 1)))) = (TV.v (AV.int IntKind.i64 (((X4.i x'12) : Nat) : Int)))) ∧
 (State.Le ((ls4 l).3 x'12) (State.untok σ'10)))))))))))))))))))))))))))))
 ((((0 : Int) ≤ (((X4.i x) : Nat) : Int)) ∧
 (((((X4.i x) : Nat) : Int) : Int) < (((List.length (cameL l)) : Nat) : Int))) ∧
 (∃ x1 : Came, (((AV.vptr (AV.cells (List.getD (cameL l) (Int.toNat (↑(X4.i x) : Int)) AV.undef))) = (AV.vptr [(AV.bool (Came.ask x1)), (AV.int IntKind.i64 (T.k (Came.t x1))), (AV.int IntKind.i64 (T.n (Came.t x1))), (AV.str (T.s (Came.t x1))), (AV.slice 4 (tcellL (T.l (Came.t x1))) Cap.any)])) ∧
 (∃ b2 : Nat, (∃ r3 : Option Nat, (∃ s4 : BS, (∃ t5 : T, (([(AV.ptr 0 0), (AV.agg [(AV.int IntKind.i64 (T.k (Came.t x1))), (AV.int IntKind.i64 (T.n (Came.t x1))), (AV.str (T.s (Came.t x1))), (AV.slice 4 (tcellL (T.l (Came.t x1))) Cap.any)])] = [(AV.ptr (b2) 0), (AV.agg [(AV.int IntKind.i64 (T.k t5)), (AV.int IntKind.i64 (T.n t5)), (AV.str (T.s t5)), (AV.slice 4 (tcellL (T.l t5)) Cap.any)])]) ∧
 (((BufAt ((ls4 l).3 x) (b2) (r3) (s4)) ∧
 (BS.wf s4)) ∧
 (∀ r'6 : Option Nat, (∀ σ'7 : State, (((BufAt σ'7 (b2) (r'6) (Prod.snd (BS.put s4 t5))) ∧
 (Keeps ((ls4 l).3 x) σ'7 (b2) (r3) (r'6))) → ((((0 : Int) ≤ (((X4.i x) : Nat) : Int)) ∧
 (((((X4.i x) : Nat) : Int) : Int) < (((List.length (cameL l)) : Nat) : Int))) ∧
 (∃ x8 : Came, (((AV.vptr (AV.cells (List.getD (cameL l) (Int.toNat (↑(X4.i x) : Int)) AV.undef))) = (AV.vptr [(AV.bool (Came.ask x8)), (AV.int IntKind.i64 (T.k (Came.t x8))), (AV.int IntKind.i64 (T.n (Came.t x8))), (AV.str (T.s (Came.t x8))), (AV.slice 4 (tcellL (T.l (Came.t x8))) Cap.any)])) ∧
 (∃ b9 : Nat, (∃ r10 : Option Nat, (∃ s11 : BS, (∃ t12 : T, (([(AV.ptr 1 0), (AV.agg [(AV.int IntKind.i64 (T.k (Came.t x8))), (AV.int IntKind.i64 (T.n (Came.t x8))), (AV.str (T.s (Came.t x8))), (AV.slice 4 (tcellL (T.l (Came.t x8))) Cap.any)])] = [(AV.ptr (b9) 0), (AV.agg [(AV.int IntKind.i64 (T.k t12)), (AV.int IntKind.i64 (T.n t12)), (AV.str (T.s t12)), (AV.slice 4 (tcellL (T.l t12)) Cap.any)])]) ∧
 (((BufAt σ'7 (b9) (r10) (s11)) ∧
 (BS.wf s11)) ∧
 (∀ r'13 : Option Nat, (∀ σ'14 : State, (((BufAt σ'14 (b9) (r'13) (Prod.snd (BS.put s11 t12))) ∧
 (Keeps σ'7 σ'14 (b9) (r10) (r'13))) → (bcase (((((BS.putN s4 t5) : Nat) : Int) : Int) != (((BS.putN s11 t12) : Nat) : Int))
 False
 (∃ l15 : List (Nat × T), (([(dealsV (BS.putL s4 t5)), (dealsV (BS.putL s11 t12))] = [(dealsV l15), (dealsV l15)]) ∧
 (((((List.length (l15)) : Nat) ≤ 1) ∧
 (∀ x16 : Nat × T, ((x16 ∈ l15) → (T.small (Prod.snd x16))))) ∧
 (bcase (((BS.putE s4 t5) : Int) != (BS.putE s11 t12))
 False
 (∃ x'16 : X4, (((LS.I (ls4 l) x'16) ∧
 (((LS.μ (ls4 l) x'16) : Nat) < (LS.μ (ls4 l) x))) ∧
 (((TV.v (AV.slice 5 (cameL l) Cap.any)) = (TV.v (AV.slice 5 (cameL l) Cap.any))) ∧
 (((TV.v (AV.ptr 0 0)) = (TV.v (AV.ptr 0 0))) ∧
 (((TV.v (AV.ptr 1 0)) = (TV.v (AV.ptr 1 0))) ∧
 (((TV.v (AV.int IntKind.i64 (IntKind.wrap IntKind.i64 ((((X4.i x) : Nat) : Int) + 1)))) = (TV.v (AV.int IntKind.i64 (((X4.i x'16) : Nat) : Int)))) ∧
 (State.Le ((ls4 l).3 x'16) (State.untok σ'14)))))))))))))))))))))))))))))))))))))))))
 True)
 True)) := by kernel_rfl
def L4 (l : List Came) : LHand := fun _ Q a σ => ∃ x : X4, x.Inv ∧ atF a ((ls4 l).F x) [] (x.σ.Le σ) ∧ ∀ σ2 : State, Q (.exit 0) (frm [] []) σ2
theorem vc4 (B : Nat) (w0 : World) (G : Nat → AV) (m n : Int) (l : List Came) (Q : AV → State → Prop) : (bodyC (EV B w0 G) (H4 (EV B w0 G)) (L4 l) annA noHint 4 [.int .i64 m, .int .i64 n, .slice 5 (cameL l) .any] noObj Q) =
 (((([] : List AV) = []) ∧
 (bcase (decide (((m) : Int) < 0))
 (Q (AV.bool true) (State.untok (noObj)))
 (bcase (decide (((m) : Int) > 1000))
 (Q (AV.bool true) (State.untok (noObj)))
 (bcase (decide (((n) : Int) < 0))
 (Q (AV.bool true) (State.untok (noObj)))
 (bcase (decide (((n) : Int) > 1000))
 (Q (AV.bool true) (State.untok (noObj)))
 (bcase (decide (((m) : Int) < 0))
 (bcase (decide (((n) : Int) < 0))
 (Q (AV.bool false) (State.untok (noObj)))
 (bcase (decide (((n) : Int) > 1000))
 (Q (AV.bool false) (State.untok (noObj)))
 (Q (AV.bool false) (State.new (State.untok (noObj)) (AObj.cells [(AV.int IntKind.i64 (n)), (AV.int IntKind.i64 0), (AV.int IntKind.i64 0), (AV.int IntKind.i64 0), AV.nilslice, (AV.int IntKind.i64 0)] 129 6 false)))))
 (bcase (decide (((m) : Int) > 1000))
 (bcase (decide (((n) : Int) < 0))
 (Q (AV.bool false) (State.untok (noObj)))
 (bcase (decide (((n) : Int) > 1000))
 (Q (AV.bool false) (State.untok (noObj)))
 (Q (AV.bool false) (State.new (State.untok (noObj)) (AObj.cells [(AV.int IntKind.i64 (n)), (AV.int IntKind.i64 0), (AV.int IntKind.i64 0), (AV.int IntKind.i64 0), AV.nilslice, (AV.int IntKind.i64 0)] 129 6 false)))))
 (bcase (decide (((n) : Int) < 0))
 (Q (AV.bool false) (State.new (State.untok (noObj)) (AObj.cells [(AV.int IntKind.i64 (m)), (AV.int IntKind.i64 0), (AV.int IntKind.i64 0), (AV.int IntKind.i64 0), AV.nilslice, (AV.int IntKind.i64 0)] 129 6 false)))
 (bcase (decide (((n) : Int) > 1000))
 (Q (AV.bool false) (State.new (State.untok (noObj)) (AObj.cells [(AV.int IntKind.i64 (m)), (AV.int IntKind.i64 0), (AV.int IntKind.i64 0), (AV.int IntKind.i64 0), AV.nilslice, (AV.int IntKind.i64 0)] 129 6 false)))
 (∃ x0 : X4, ((X4.Inv x0) ∧
 ((((TV.v (AV.slice 5 (cameL l) Cap.any)) = (TV.v (AV.slice 5 (cameL l) Cap.any))) ∧
 (((TV.v (AV.ptr 0 0)) = (TV.v (AV.ptr 0 0))) ∧
 (((TV.v (AV.ptr 1 0)) = (TV.v (AV.ptr 1 0))) ∧
 (((TV.v (AV.int IntKind.i64 0)) = (TV.v (AV.int IntKind.i64 (((X4.i x0) : Nat) : Int)))) ∧
 (State.Le (x0.2) (State.new (State.new (State.untok (noObj)) (AObj.cells [(AV.int IntKind.i64 (m)), (AV.int IntKind.i64 0), (AV.int IntKind.i64 0), (AV.int IntKind.i64 0), AV.nilslice, (AV.int IntKind.i64 0)] 129 6 false)) (AObj.cells [(AV.int IntKind.i64 (n)), (AV.int IntKind.i64 0), (AV.int IntKind.i64 0), (AV.int IntKind.i64 0), AV.nilslice, (AV.int IntKind.i64 0)] 129 6 false))))))) ∧
 (∀ σ21 : State, (Q (AV.bool true) σ21))))))))))))))) := by kernel_rfl
end Go.V
