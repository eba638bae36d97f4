/- Conditions: the check of terms. -/
import Derived.Test.YtgnjidopnplbbaaGreatDoorP1
set_option maxRecDepth 1000000
set_option linter.unusedVariables false
namespace Go.V
open Go Go.Proofs

def wr (n : Int) : Int := IntKind.wrap .i64 n

/-- Whether a node is right by itself. -/
def formB (t : T) : Bool :=
  if t.k = 1 then bseq t.s ⟨⟨[]⟩⟩ && (decide ((t.l.length : Int) = 0) && (decide (t.n ≥ 0) && decide (t.n < 100000)))
  else if t.k = 2 then bseq t.s ⟨⟨[]⟩⟩ && (decide ((t.l.length : Int) = 0) && (decide (t.n ≥ -2147483647) && decide (t.n ≤ 2147483647)))
  else if t.k = 3 then decide (t.n = 0) && (decide ((t.l.length : Int) = 0) && nameB t.s)
  else if t.k = 4 then decide (t.n = 0) && (decide ((t.l.length : Int) = 0) && decide ((t.s.size : Int) ≤ 255))
  else if t.k = 5 then decide (t.n = 0) && (nameB t.s && (decide ((t.l.length : Int) ≥ 1) && decide ((t.l.length : Int) ≤ 16)))
  else if t.k = 6 then decide (t.n = 0) && (bseq t.s ⟨⟨[]⟩⟩ && decide ((t.l.length : Int) ≤ 64))
  else false

def nodeB (t : T) (left deep : Int) : Bool := !decide (deep < 1) && (!decide (left < 1) && formB t)

mutual
def count : T → Int → Int → Int
  | .mk k n s l, left, deep => if nodeB (.mk k n s l) left deep = true then countL l 1 left deep else wr (left + 1)
def countL : List T → Int → Int → Int → Int
  | [], n, _, _ => n
  | x :: l, n, left, deep => if wr (n + count x (wr (left - n)) (wr (deep - 1))) > left then wr (left + 1) else countL l (wr (n + count x (wr (left - n)) (wr (deep - 1)))) left deep
end

def C154 : Contract := fun args σ K => ∃ s, args = [.str s] ∧ K (.bool (nameB s)) σ.untok
def C130 (N : Nat) : Contract := fun args σ K => ∃ (t : T) (left deep : Int), args = [.agg (tc t), .int .i64 left, .int .i64 deep, formsV] ∧ SizeOf.sizeOf t < N ∧ K (.int .i64 (count t left deep)) σ.untok
def H130 (E : Env) (N : Nat) : Hand := hnd E annA noHints [(154, C154), (130, C130 N)]
def N130 : FnHint := fun id i => match Nat.beq id 6 && Nat.beq i 0 with
  | true => Hint.as (fun t : T => .vptr (tc t))
  | false => symAt [(1, 19), (1, 20)] id i

def li130 (t : T) (left deep : Int) : LI (Nat × Int) where
  F x := [(1, .v (.int .i64 left)), (2, .v (.int .i64 deep)), (7, .l 7 0), (9, .v (.int .i64 x.2)), (40, .v (.slice 4 (tcellL t.l) .any)), (41, .v (.int .i64 (tcellL t.l).length)), (42, .v (.int .i64 x.1))]
  FL _ := [(7, formsV.cells)]
  L _ := []
  m _ := 0
  I x := x.1 ≤ t.l.length ∧ t.l.length ≤ 64 ∧ countL t.l 1 left deep = countL (t.l.drop x.1) x.2 left deep
  μ x := t.l.length - x.1
  Ex _ e a σ := match e with
    | .exit 0 => atFS a σ [(9, .v (.int .i64 (countL t.l 1 left deep)))] [] [] 0
    | .ret => atFS a σ [(8, .v (.int .i64 (countL t.l 1 left deep)))] [] [] 0
    | _ => False
theorem fnLoops_130 : fnLoops Tryz.prog 130 = [.loop (lbody Tryz.prog 130 0)] := by kernel_rfl
theorem vc130l (B : Nat) (w0 : World) (G : Nat → AV) (N : Nat) (t : T) (left deep : Int) (i : Nat) (n : Int) : (wpC (EV B w0 G) (H130 (EV B w0 G) N) (fun _ _ _ _ => False) (annA 130) N130 (lbody Tryz.prog 130 0) ((li130 t left deep).post (i, n)) (frm ((li130 t left deep).F (i, n)) ((li130 t left deep).FL (i, n))) (lst ((li130 t left deep).L (i, n)) ((li130 t left deep).m (i, n)))) =
 ((bcase (decide ((↑(Prod.fst (i, n)) : Int) < (↑(List.length (tcellL (T.l t))) : Int)))
 (((0 ≤ (↑(Prod.fst (i, n)) : Int)) ∧
 ((↑(Prod.fst (i, n)) : Int) < (↑(List.length (tcellL (T.l t))) : Int))) ∧
 (∃ x0 : T, (((AV.vptr (AV.cells (List.getD (tcellL (T.l t)) (Int.toNat (↑(Prod.fst (i, n)) : Int)) AV.undef))) = (AV.vptr [(AV.int IntKind.i64 (T.k x0)), (AV.int IntKind.i64 (T.n x0)), (AV.str (T.s x0)), (AV.slice 4 (tcellL (T.l x0)) Cap.any)])) ∧
 (∃ t1 : T, (∃ left2 : Int, (∃ deep3 : Int, (([(AV.agg [(AV.int IntKind.i64 (T.k x0)), (AV.int IntKind.i64 (T.n x0)), (AV.str (T.s x0)), (AV.slice 4 (tcellL (T.l x0)) Cap.any)]), (AV.int IntKind.i64 (IntKind.wrap IntKind.i64 (left - Prod.snd (i, n)))), (AV.int IntKind.i64 (IntKind.wrap IntKind.i64 (deep - 1))), (AV.agg [AV.nilfunc, (AV.func (Go.Fn.func 151) [] [(AV.vptr [(AV.func (Go.Fn.func 150) [] [])])]), (AV.func (Go.Fn.func 152) [] [(AV.vptr [(AV.func (Go.Fn.func 150) [] [])])]), (AV.func (Go.Fn.func 153) [] [(AV.vptr [(AV.func (Go.Fn.func 150) [] [])])]), (AV.func (Go.Fn.func 155) [] [(AV.vptr [(AV.func (Go.Fn.func 150) [] [])])]), (AV.func (Go.Fn.func 156) [] [(AV.vptr [(AV.func (Go.Fn.func 150) [] [])])]), (AV.func (Go.Fn.func 157) [] [(AV.vptr [(AV.func (Go.Fn.func 150) [] [])])])])] = [(AV.agg [(AV.int IntKind.i64 (T.k t1)), (AV.int IntKind.i64 (T.n t1)), (AV.str (T.s t1)), (AV.slice 4 (tcellL (T.l t1)) Cap.any)]), (AV.int IntKind.i64 (left2)), (AV.int IntKind.i64 (deep3)), (AV.agg [AV.nilfunc, (AV.func (Go.Fn.func 151) [] [(AV.vptr [(AV.func (Go.Fn.func 150) [] [])])]), (AV.func (Go.Fn.func 152) [] [(AV.vptr [(AV.func (Go.Fn.func 150) [] [])])]), (AV.func (Go.Fn.func 153) [] [(AV.vptr [(AV.func (Go.Fn.func 150) [] [])])]), (AV.func (Go.Fn.func 155) [] [(AV.vptr [(AV.func (Go.Fn.func 150) [] [])])]), (AV.func (Go.Fn.func 156) [] [(AV.vptr [(AV.func (Go.Fn.func 150) [] [])])]), (AV.func (Go.Fn.func 157) [] [(AV.vptr [(AV.func (Go.Fn.func 150) [] [])])])])]) ∧
 ((SizeOf.sizeOf t1 < N) ∧
 (bcase (decide (IntKind.wrap IntKind.i64 (Prod.snd (i, n) + count t1 left2 deep3) > left))
 (((TV.v (AV.int IntKind.i64 (IntKind.wrap IntKind.i64 (left + 1)))) = (TV.v (AV.int IntKind.i64 (countL (T.l t) 1 left deep)))) ∧
 ((0 = 0) ∧
 True))
 (∃ x'4 : Nat × Int, ((((Prod.fst x'4 ≤ List.length (T.l t)) ∧
 ((List.length (T.l t) ≤ 64) ∧
 ((countL (T.l t) 1 left deep) = (countL (List.drop (Prod.fst x'4) (T.l t)) (Prod.snd x'4) left deep)))) ∧
 (LI.μ (li130 t left deep) x'4 < LI.μ (li130 t left deep) (i, n))) ∧
 (((TV.v (AV.int IntKind.i64 (left))) = (TV.v (AV.int IntKind.i64 (left)))) ∧
 (((TV.v (AV.int IntKind.i64 (deep))) = (TV.v (AV.int IntKind.i64 (deep)))) ∧
 (((TV.l 7 0) = (TV.l 7 0)) ∧
 (((TV.v (AV.int IntKind.i64 (IntKind.wrap IntKind.i64 (Prod.snd (i, n) + count t1 left2 deep3)))) = (TV.v (AV.int IntKind.i64 (Prod.snd x'4)))) ∧
 (((TV.v (AV.slice 4 (tcellL (T.l t)) Cap.any)) = (TV.v (AV.slice 4 (tcellL (T.l t)) Cap.any))) ∧
 (((TV.v (AV.int IntKind.i64 ((↑(List.length (tcellL (T.l t))) : Int)))) = (TV.v (AV.int IntKind.i64 ((↑(List.length (tcellL (T.l t))) : Int))))) ∧
 (((TV.v (AV.int IntKind.i64 (IntKind.wrap IntKind.i64 ((↑(Prod.fst (i, n)) : Int) + 1)))) = (TV.v (AV.int IntKind.i64 ((↑(Prod.fst x'4) : Int))))) ∧
 (([AV.nilfunc, (AV.func (Go.Fn.func 151) [] [(AV.vptr [(AV.func (Go.Fn.func 150) [] [])])]), (AV.func (Go.Fn.func 152) [] [(AV.vptr [(AV.func (Go.Fn.func 150) [] [])])]), (AV.func (Go.Fn.func 153) [] [(AV.vptr [(AV.func (Go.Fn.func 150) [] [])])]), (AV.func (Go.Fn.func 155) [] [(AV.vptr [(AV.func (Go.Fn.func 150) [] [])])]), (AV.func (Go.Fn.func 156) [] [(AV.vptr [(AV.func (Go.Fn.func 150) [] [])])]), (AV.func (Go.Fn.func 157) [] [(AV.vptr [(AV.func (Go.Fn.func 150) [] [])])])] = [AV.nilfunc, (AV.func (Go.Fn.func 151) [] [(AV.vptr [(AV.func (Go.Fn.func 150) [] [])])]), (AV.func (Go.Fn.func 152) [] [(AV.vptr [(AV.func (Go.Fn.func 150) [] [])])]), (AV.func (Go.Fn.func 153) [] [(AV.vptr [(AV.func (Go.Fn.func 150) [] [])])]), (AV.func (Go.Fn.func 155) [] [(AV.vptr [(AV.func (Go.Fn.func 150) [] [])])]), (AV.func (Go.Fn.func 156) [] [(AV.vptr [(AV.func (Go.Fn.func 150) [] [])])]), (AV.func (Go.Fn.func 157) [] [(AV.vptr [(AV.func (Go.Fn.func 150) [] [])])])]) ∧
 ((0 = 0) ∧
 True))))))))))))))))))))
 (((TV.v (AV.int IntKind.i64 (Prod.snd (i, n)))) = (TV.v (AV.int IntKind.i64 (countL (T.l t) 1 left deep)))) ∧
 ((0 = 0) ∧
 True)))) := by kernel_rfl
def L130 (t : T) (left deep : Int) : LHand := fun _ Q a σ => (li130 t left deep).I (0, 1) ∧ atFS a σ ((li130 t left deep).F (0, 1)) ((li130 t left deep).FL (0, 1)) [] 0 ∧
  (Q (.exit 0) (frm [(9, .v (.int .i64 (countL t.l 1 left deep)))] []) (lst [] 0) ∧ Q .ret (frm [(8, .v (.int .i64 (countL t.l 1 left deep)))] []) (lst [] 0))
theorem vc130 (B : Nat) (w0 : World) (G : Nat → AV) (N : Nat) (t : T) (left deep : Int) (Q : AV → State → Prop) : (bodyC (EV B w0 G) (H130 (EV B w0 G) N) (L130 t left deep) annA N130 130 [.agg (tc t), .int .i64 left, .int .i64 deep, formsV] noObj Q) =
 ((bcase (decide (deep < 1))
 (Q (AV.int IntKind.i64 (IntKind.wrap IntKind.i64 (left + 1))) (noObj))
 (bcase (decide (left < 1))
 (Q (AV.int IntKind.i64 (IntKind.wrap IntKind.i64 (left + 1))) (noObj))
 (bcase (decide (T.k t < 1))
 (Q (AV.int IntKind.i64 (IntKind.wrap IntKind.i64 (left + 1))) (noObj))
 (bcase (decide (T.k t > 6))
 (Q (AV.int IntKind.i64 (IntKind.wrap IntKind.i64 (left + 1))) (noObj))
 ((0 ≤ T.k t) ∧
 ((T.k t < (↑7 : Int)) ∧
 (bcase (decide (0 + Int.toNat (T.k t) * 1 = 0))
 False
 (bcase (decide (0 + Int.toNat (T.k t) * 1 = 1))
 (bcase (bseq (T.s t) { data := #[] })
 (bcase ((↑(List.length (tcellL (T.l t))) : Int) == 0)
 (bcase (decide (T.n t ≥ 0))
 (bcase (!decide (T.n t < 100000))
 (Q (AV.int IntKind.i64 (IntKind.wrap IntKind.i64 (left + 1))) (noObj))
 (((0 ≤ List.length (T.l t)) ∧
 ((List.length (T.l t) ≤ 64) ∧
 ((countL (T.l t) 1 left deep) = (countL (List.drop 0 (T.l t)) (Prod.snd (0, 1)) left deep)))) ∧
 ((((TV.v (AV.int IntKind.i64 (left))) = (TV.v (AV.int IntKind.i64 (left)))) ∧
 (((TV.v (AV.int IntKind.i64 (deep))) = (TV.v (AV.int IntKind.i64 (deep)))) ∧
 (((TV.l 7 0) = (TV.l 7 0)) ∧
 (((TV.v (AV.int IntKind.i64 1)) = (TV.v (AV.int IntKind.i64 1))) ∧
 (((TV.v (AV.slice 4 (tcellL (T.l t)) Cap.any)) = (TV.v (AV.slice 4 (tcellL (T.l t)) Cap.any))) ∧
 (((TV.v (AV.int IntKind.i64 ((↑(List.length (tcellL (T.l t))) : Int)))) = (TV.v (AV.int IntKind.i64 ((↑(List.length (tcellL (T.l t))) : Int))))) ∧
 (((TV.v (AV.int IntKind.i64 0)) = (TV.v (AV.int IntKind.i64 0))) ∧
 (([AV.nilfunc, (AV.func (Go.Fn.func 151) [] [(AV.vptr [(AV.func (Go.Fn.func 150) [] [])])]), (AV.func (Go.Fn.func 152) [] [(AV.vptr [(AV.func (Go.Fn.func 150) [] [])])]), (AV.func (Go.Fn.func 153) [] [(AV.vptr [(AV.func (Go.Fn.func 150) [] [])])]), (AV.func (Go.Fn.func 155) [] [(AV.vptr [(AV.func (Go.Fn.func 150) [] [])])]), (AV.func (Go.Fn.func 156) [] [(AV.vptr [(AV.func (Go.Fn.func 150) [] [])])]), (AV.func (Go.Fn.func 157) [] [(AV.vptr [(AV.func (Go.Fn.func 150) [] [])])])] = [AV.nilfunc, (AV.func (Go.Fn.func 151) [] [(AV.vptr [(AV.func (Go.Fn.func 150) [] [])])]), (AV.func (Go.Fn.func 152) [] [(AV.vptr [(AV.func (Go.Fn.func 150) [] [])])]), (AV.func (Go.Fn.func 153) [] [(AV.vptr [(AV.func (Go.Fn.func 150) [] [])])]), (AV.func (Go.Fn.func 155) [] [(AV.vptr [(AV.func (Go.Fn.func 150) [] [])])]), (AV.func (Go.Fn.func 156) [] [(AV.vptr [(AV.func (Go.Fn.func 150) [] [])])]), (AV.func (Go.Fn.func 157) [] [(AV.vptr [(AV.func (Go.Fn.func 150) [] [])])])]) ∧
 ((0 = 0) ∧
 True))))))))) ∧
 ((Q (AV.int IntKind.i64 (countL (T.l t) 1 left deep)) (lst [] 0)) ∧
 (Q (AV.int IntKind.i64 (countL (T.l t) 1 left deep)) (lst [] 0))))))
 (Q (AV.int IntKind.i64 (IntKind.wrap IntKind.i64 (left + 1))) (noObj)))
 (Q (AV.int IntKind.i64 (IntKind.wrap IntKind.i64 (left + 1))) (noObj)))
 (Q (AV.int IntKind.i64 (IntKind.wrap IntKind.i64 (left + 1))) (noObj)))
 (bcase (decide (0 + Int.toNat (T.k t) * 1 = 2))
 (bcase (bseq (T.s t) { data := #[] })
 (bcase ((↑(List.length (tcellL (T.l t))) : Int) == 0)
 (bcase (decide (T.n t ≥ -2147483647))
 (bcase (!decide (T.n t ≤ 2147483647))
 (Q (AV.int IntKind.i64 (IntKind.wrap IntKind.i64 (left + 1))) (noObj))
 (((0 ≤ List.length (T.l t)) ∧
 ((List.length (T.l t) ≤ 64) ∧
 ((countL (T.l t) 1 left deep) = (countL (List.drop 0 (T.l t)) (Prod.snd (0, 1)) left deep)))) ∧
 ((((TV.v (AV.int IntKind.i64 (left))) = (TV.v (AV.int IntKind.i64 (left)))) ∧
 (((TV.v (AV.int IntKind.i64 (deep))) = (TV.v (AV.int IntKind.i64 (deep)))) ∧
 (((TV.l 7 0) = (TV.l 7 0)) ∧
 (((TV.v (AV.int IntKind.i64 1)) = (TV.v (AV.int IntKind.i64 1))) ∧
 (((TV.v (AV.slice 4 (tcellL (T.l t)) Cap.any)) = (TV.v (AV.slice 4 (tcellL (T.l t)) Cap.any))) ∧
 (((TV.v (AV.int IntKind.i64 ((↑(List.length (tcellL (T.l t))) : Int)))) = (TV.v (AV.int IntKind.i64 ((↑(List.length (tcellL (T.l t))) : Int))))) ∧
 (((TV.v (AV.int IntKind.i64 0)) = (TV.v (AV.int IntKind.i64 0))) ∧
 (([AV.nilfunc, (AV.func (Go.Fn.func 151) [] [(AV.vptr [(AV.func (Go.Fn.func 150) [] [])])]), (AV.func (Go.Fn.func 152) [] [(AV.vptr [(AV.func (Go.Fn.func 150) [] [])])]), (AV.func (Go.Fn.func 153) [] [(AV.vptr [(AV.func (Go.Fn.func 150) [] [])])]), (AV.func (Go.Fn.func 155) [] [(AV.vptr [(AV.func (Go.Fn.func 150) [] [])])]), (AV.func (Go.Fn.func 156) [] [(AV.vptr [(AV.func (Go.Fn.func 150) [] [])])]), (AV.func (Go.Fn.func 157) [] [(AV.vptr [(AV.func (Go.Fn.func 150) [] [])])])] = [AV.nilfunc, (AV.func (Go.Fn.func 151) [] [(AV.vptr [(AV.func (Go.Fn.func 150) [] [])])]), (AV.func (Go.Fn.func 152) [] [(AV.vptr [(AV.func (Go.Fn.func 150) [] [])])]), (AV.func (Go.Fn.func 153) [] [(AV.vptr [(AV.func (Go.Fn.func 150) [] [])])]), (AV.func (Go.Fn.func 155) [] [(AV.vptr [(AV.func (Go.Fn.func 150) [] [])])]), (AV.func (Go.Fn.func 156) [] [(AV.vptr [(AV.func (Go.Fn.func 150) [] [])])]), (AV.func (Go.Fn.func 157) [] [(AV.vptr [(AV.func (Go.Fn.func 150) [] [])])])]) ∧
 ((0 = 0) ∧
 True))))))))) ∧
 ((Q (AV.int IntKind.i64 (countL (T.l t) 1 left deep)) (lst [] 0)) ∧
 (Q (AV.int IntKind.i64 (countL (T.l t) 1 left deep)) (lst [] 0))))))
 (Q (AV.int IntKind.i64 (IntKind.wrap IntKind.i64 (left + 1))) (noObj)))
 (Q (AV.int IntKind.i64 (IntKind.wrap IntKind.i64 (left + 1))) (noObj)))
 (Q (AV.int IntKind.i64 (IntKind.wrap IntKind.i64 (left + 1))) (noObj)))
 (bcase (decide (0 + Int.toNat (T.k t) * 1 = 3))
 (bcase (T.n t == 0)
 (bcase ((↑(List.length (tcellL (T.l t))) : Int) == 0)
 (∃ s0 : ByteArray, (([(AV.str (T.s t))] = [(AV.str (s0))]) ∧
 (bcase (!nameB s0)
 (Q (AV.int IntKind.i64 (IntKind.wrap IntKind.i64 (left + 1))) (State.untok noObj))
 (((0 ≤ List.length (T.l t)) ∧
 ((List.length (T.l t) ≤ 64) ∧
 ((countL (T.l t) 1 left deep) = (countL (List.drop 0 (T.l t)) (Prod.snd (0, 1)) left deep)))) ∧
 ((((TV.v (AV.int IntKind.i64 (left))) = (TV.v (AV.int IntKind.i64 (left)))) ∧
 (((TV.v (AV.int IntKind.i64 (deep))) = (TV.v (AV.int IntKind.i64 (deep)))) ∧
 (((TV.l 7 0) = (TV.l 7 0)) ∧
 (((TV.v (AV.int IntKind.i64 1)) = (TV.v (AV.int IntKind.i64 1))) ∧
 (((TV.v (AV.slice 4 (tcellL (T.l t)) Cap.any)) = (TV.v (AV.slice 4 (tcellL (T.l t)) Cap.any))) ∧
 (((TV.v (AV.int IntKind.i64 ((↑(List.length (tcellL (T.l t))) : Int)))) = (TV.v (AV.int IntKind.i64 ((↑(List.length (tcellL (T.l t))) : Int))))) ∧
 (((TV.v (AV.int IntKind.i64 0)) = (TV.v (AV.int IntKind.i64 0))) ∧
 (([AV.nilfunc, (AV.func (Go.Fn.func 151) [] [(AV.vptr [(AV.func (Go.Fn.func 150) [] [])])]), (AV.func (Go.Fn.func 152) [] [(AV.vptr [(AV.func (Go.Fn.func 150) [] [])])]), (AV.func (Go.Fn.func 153) [] [(AV.vptr [(AV.func (Go.Fn.func 150) [] [])])]), (AV.func (Go.Fn.func 155) [] [(AV.vptr [(AV.func (Go.Fn.func 150) [] [])])]), (AV.func (Go.Fn.func 156) [] [(AV.vptr [(AV.func (Go.Fn.func 150) [] [])])]), (AV.func (Go.Fn.func 157) [] [(AV.vptr [(AV.func (Go.Fn.func 150) [] [])])])] = [AV.nilfunc, (AV.func (Go.Fn.func 151) [] [(AV.vptr [(AV.func (Go.Fn.func 150) [] [])])]), (AV.func (Go.Fn.func 152) [] [(AV.vptr [(AV.func (Go.Fn.func 150) [] [])])]), (AV.func (Go.Fn.func 153) [] [(AV.vptr [(AV.func (Go.Fn.func 150) [] [])])]), (AV.func (Go.Fn.func 155) [] [(AV.vptr [(AV.func (Go.Fn.func 150) [] [])])]), (AV.func (Go.Fn.func 156) [] [(AV.vptr [(AV.func (Go.Fn.func 150) [] [])])]), (AV.func (Go.Fn.func 157) [] [(AV.vptr [(AV.func (Go.Fn.func 150) [] [])])])]) ∧
 ((0 = 0) ∧
 True))))))))) ∧
 ((Q (AV.int IntKind.i64 (countL (T.l t) 1 left deep)) (lst [] 0)) ∧
 (Q (AV.int IntKind.i64 (countL (T.l t) 1 left deep)) (lst [] 0))))))))
 (Q (AV.int IntKind.i64 (IntKind.wrap IntKind.i64 (left + 1))) (noObj)))
 (Q (AV.int IntKind.i64 (IntKind.wrap IntKind.i64 (left + 1))) (noObj)))
 (bcase (decide (0 + Int.toNat (T.k t) * 1 = 4))
 (bcase (T.n t == 0)
 (bcase ((↑(List.length (tcellL (T.l t))) : Int) == 0)
 (bcase (!decide ((↑(ByteArray.size (T.s t)) : Int) ≤ 255))
 (Q (AV.int IntKind.i64 (IntKind.wrap IntKind.i64 (left + 1))) (noObj))
 (((0 ≤ List.length (T.l t)) ∧
 ((List.length (T.l t) ≤ 64) ∧
 ((countL (T.l t) 1 left deep) = (countL (List.drop 0 (T.l t)) (Prod.snd (0, 1)) left deep)))) ∧
 ((((TV.v (AV.int IntKind.i64 (left))) = (TV.v (AV.int IntKind.i64 (left)))) ∧
 (((TV.v (AV.int IntKind.i64 (deep))) = (TV.v (AV.int IntKind.i64 (deep)))) ∧
 (((TV.l 7 0) = (TV.l 7 0)) ∧
 (((TV.v (AV.int IntKind.i64 1)) = (TV.v (AV.int IntKind.i64 1))) ∧
 (((TV.v (AV.slice 4 (tcellL (T.l t)) Cap.any)) = (TV.v (AV.slice 4 (tcellL (T.l t)) Cap.any))) ∧
 (((TV.v (AV.int IntKind.i64 ((↑(List.length (tcellL (T.l t))) : Int)))) = (TV.v (AV.int IntKind.i64 ((↑(List.length (tcellL (T.l t))) : Int))))) ∧
 (((TV.v (AV.int IntKind.i64 0)) = (TV.v (AV.int IntKind.i64 0))) ∧
 (([AV.nilfunc, (AV.func (Go.Fn.func 151) [] [(AV.vptr [(AV.func (Go.Fn.func 150) [] [])])]), (AV.func (Go.Fn.func 152) [] [(AV.vptr [(AV.func (Go.Fn.func 150) [] [])])]), (AV.func (Go.Fn.func 153) [] [(AV.vptr [(AV.func (Go.Fn.func 150) [] [])])]), (AV.func (Go.Fn.func 155) [] [(AV.vptr [(AV.func (Go.Fn.func 150) [] [])])]), (AV.func (Go.Fn.func 156) [] [(AV.vptr [(AV.func (Go.Fn.func 150) [] [])])]), (AV.func (Go.Fn.func 157) [] [(AV.vptr [(AV.func (Go.Fn.func 150) [] [])])])] = [AV.nilfunc, (AV.func (Go.Fn.func 151) [] [(AV.vptr [(AV.func (Go.Fn.func 150) [] [])])]), (AV.func (Go.Fn.func 152) [] [(AV.vptr [(AV.func (Go.Fn.func 150) [] [])])]), (AV.func (Go.Fn.func 153) [] [(AV.vptr [(AV.func (Go.Fn.func 150) [] [])])]), (AV.func (Go.Fn.func 155) [] [(AV.vptr [(AV.func (Go.Fn.func 150) [] [])])]), (AV.func (Go.Fn.func 156) [] [(AV.vptr [(AV.func (Go.Fn.func 150) [] [])])]), (AV.func (Go.Fn.func 157) [] [(AV.vptr [(AV.func (Go.Fn.func 150) [] [])])])]) ∧
 ((0 = 0) ∧
 True))))))))) ∧
 ((Q (AV.int IntKind.i64 (countL (T.l t) 1 left deep)) (lst [] 0)) ∧
 (Q (AV.int IntKind.i64 (countL (T.l t) 1 left deep)) (lst [] 0))))))
 (Q (AV.int IntKind.i64 (IntKind.wrap IntKind.i64 (left + 1))) (noObj)))
 (Q (AV.int IntKind.i64 (IntKind.wrap IntKind.i64 (left + 1))) (noObj)))
 (bcase (decide (0 + Int.toNat (T.k t) * 1 = 5))
 (bcase (T.n t == 0)
 (∃ s0 : ByteArray, (([(AV.str (T.s t))] = [(AV.str (s0))]) ∧
 (bcase (nameB s0)
 (bcase (decide ((↑(List.length (tcellL (T.l t))) : Int) ≥ 1))
 (bcase (!decide ((↑(List.length (tcellL (T.l t))) : Int) ≤ 16))
 (Q (AV.int IntKind.i64 (IntKind.wrap IntKind.i64 (left + 1))) (State.untok noObj))
 (((0 ≤ List.length (T.l t)) ∧
 ((List.length (T.l t) ≤ 64) ∧
 ((countL (T.l t) 1 left deep) = (countL (List.drop 0 (T.l t)) (Prod.snd (0, 1)) left deep)))) ∧
 ((((TV.v (AV.int IntKind.i64 (left))) = (TV.v (AV.int IntKind.i64 (left)))) ∧
 (((TV.v (AV.int IntKind.i64 (deep))) = (TV.v (AV.int IntKind.i64 (deep)))) ∧
 (((TV.l 7 0) = (TV.l 7 0)) ∧
 (((TV.v (AV.int IntKind.i64 1)) = (TV.v (AV.int IntKind.i64 1))) ∧
 (((TV.v (AV.slice 4 (tcellL (T.l t)) Cap.any)) = (TV.v (AV.slice 4 (tcellL (T.l t)) Cap.any))) ∧
 (((TV.v (AV.int IntKind.i64 ((↑(List.length (tcellL (T.l t))) : Int)))) = (TV.v (AV.int IntKind.i64 ((↑(List.length (tcellL (T.l t))) : Int))))) ∧
 (((TV.v (AV.int IntKind.i64 0)) = (TV.v (AV.int IntKind.i64 0))) ∧
 (([AV.nilfunc, (AV.func (Go.Fn.func 151) [] [(AV.vptr [(AV.func (Go.Fn.func 150) [] [])])]), (AV.func (Go.Fn.func 152) [] [(AV.vptr [(AV.func (Go.Fn.func 150) [] [])])]), (AV.func (Go.Fn.func 153) [] [(AV.vptr [(AV.func (Go.Fn.func 150) [] [])])]), (AV.func (Go.Fn.func 155) [] [(AV.vptr [(AV.func (Go.Fn.func 150) [] [])])]), (AV.func (Go.Fn.func 156) [] [(AV.vptr [(AV.func (Go.Fn.func 150) [] [])])]), (AV.func (Go.Fn.func 157) [] [(AV.vptr [(AV.func (Go.Fn.func 150) [] [])])])] = [AV.nilfunc, (AV.func (Go.Fn.func 151) [] [(AV.vptr [(AV.func (Go.Fn.func 150) [] [])])]), (AV.func (Go.Fn.func 152) [] [(AV.vptr [(AV.func (Go.Fn.func 150) [] [])])]), (AV.func (Go.Fn.func 153) [] [(AV.vptr [(AV.func (Go.Fn.func 150) [] [])])]), (AV.func (Go.Fn.func 155) [] [(AV.vptr [(AV.func (Go.Fn.func 150) [] [])])]), (AV.func (Go.Fn.func 156) [] [(AV.vptr [(AV.func (Go.Fn.func 150) [] [])])]), (AV.func (Go.Fn.func 157) [] [(AV.vptr [(AV.func (Go.Fn.func 150) [] [])])])]) ∧
 ((0 = 0) ∧
 True))))))))) ∧
 ((Q (AV.int IntKind.i64 (countL (T.l t) 1 left deep)) (lst [] 0)) ∧
 (Q (AV.int IntKind.i64 (countL (T.l t) 1 left deep)) (lst [] 0))))))
 (Q (AV.int IntKind.i64 (IntKind.wrap IntKind.i64 (left + 1))) (State.untok noObj)))
 (Q (AV.int IntKind.i64 (IntKind.wrap IntKind.i64 (left + 1))) (State.untok noObj)))))
 (Q (AV.int IntKind.i64 (IntKind.wrap IntKind.i64 (left + 1))) (noObj)))
 (bcase (decide (0 + Int.toNat (T.k t) * 1 = 6))
 (bcase (T.n t == 0)
 (bcase (bseq (T.s t) { data := #[] })
 (bcase (!decide ((↑(List.length (tcellL (T.l t))) : Int) ≤ 64))
 (Q (AV.int IntKind.i64 (IntKind.wrap IntKind.i64 (left + 1))) (noObj))
 (((0 ≤ List.length (T.l t)) ∧
 ((List.length (T.l t) ≤ 64) ∧
 ((countL (T.l t) 1 left deep) = (countL (List.drop 0 (T.l t)) (Prod.snd (0, 1)) left deep)))) ∧
 ((((TV.v (AV.int IntKind.i64 (left))) = (TV.v (AV.int IntKind.i64 (left)))) ∧
 (((TV.v (AV.int IntKind.i64 (deep))) = (TV.v (AV.int IntKind.i64 (deep)))) ∧
 (((TV.l 7 0) = (TV.l 7 0)) ∧
 (((TV.v (AV.int IntKind.i64 1)) = (TV.v (AV.int IntKind.i64 1))) ∧
 (((TV.v (AV.slice 4 (tcellL (T.l t)) Cap.any)) = (TV.v (AV.slice 4 (tcellL (T.l t)) Cap.any))) ∧
 (((TV.v (AV.int IntKind.i64 ((↑(List.length (tcellL (T.l t))) : Int)))) = (TV.v (AV.int IntKind.i64 ((↑(List.length (tcellL (T.l t))) : Int))))) ∧
 (((TV.v (AV.int IntKind.i64 0)) = (TV.v (AV.int IntKind.i64 0))) ∧
 (([AV.nilfunc, (AV.func (Go.Fn.func 151) [] [(AV.vptr [(AV.func (Go.Fn.func 150) [] [])])]), (AV.func (Go.Fn.func 152) [] [(AV.vptr [(AV.func (Go.Fn.func 150) [] [])])]), (AV.func (Go.Fn.func 153) [] [(AV.vptr [(AV.func (Go.Fn.func 150) [] [])])]), (AV.func (Go.Fn.func 155) [] [(AV.vptr [(AV.func (Go.Fn.func 150) [] [])])]), (AV.func (Go.Fn.func 156) [] [(AV.vptr [(AV.func (Go.Fn.func 150) [] [])])]), (AV.func (Go.Fn.func 157) [] [(AV.vptr [(AV.func (Go.Fn.func 150) [] [])])])] = [AV.nilfunc, (AV.func (Go.Fn.func 151) [] [(AV.vptr [(AV.func (Go.Fn.func 150) [] [])])]), (AV.func (Go.Fn.func 152) [] [(AV.vptr [(AV.func (Go.Fn.func 150) [] [])])]), (AV.func (Go.Fn.func 153) [] [(AV.vptr [(AV.func (Go.Fn.func 150) [] [])])]), (AV.func (Go.Fn.func 155) [] [(AV.vptr [(AV.func (Go.Fn.func 150) [] [])])]), (AV.func (Go.Fn.func 156) [] [(AV.vptr [(AV.func (Go.Fn.func 150) [] [])])]), (AV.func (Go.Fn.func 157) [] [(AV.vptr [(AV.func (Go.Fn.func 150) [] [])])])]) ∧
 ((0 = 0) ∧
 True))))))))) ∧
 ((Q (AV.int IntKind.i64 (countL (T.l t) 1 left deep)) (lst [] 0)) ∧
 (Q (AV.int IntKind.i64 (countL (T.l t) 1 left deep)) (lst [] 0))))))
 (Q (AV.int IntKind.i64 (IntKind.wrap IntKind.i64 (left + 1))) (noObj)))
 (Q (AV.int IntKind.i64 (IntKind.wrap IntKind.i64 (left + 1))) (noObj)))
 False)))))))))))))) := by kernel_rfl
end Go.V
