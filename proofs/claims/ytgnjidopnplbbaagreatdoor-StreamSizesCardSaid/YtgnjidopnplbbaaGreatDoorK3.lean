/- Conditions: Check, Same. -/
import Derived.Test.YtgnjidopnplbbaaGreatDoorP2
set_option maxRecDepth 1000000
set_option linter.unusedVariables false
namespace Go.V
open Go Go.Proofs

def chkT (t : T) : Int := if count t 4000 600 > 4000 then 3 else 0
def C129 : Contract := fun args σ K => args = [] ∧ K formsV σ.untok
def H66 (E : Env) (N : Nat) : Hand := hnd E annA noHints [(129, C129), (130, C130 N)]
theorem vc66 (B : Nat) (w0 : World) (G : Nat → AV) (N : Nat) (t : T) (Q : AV → State → Prop) : (bodyC (EV B w0 G) (H66 (EV B w0 G) N) (fun _ _ _ _ => False) annA noHint 66 [.agg (tc t)] noObj Q) =
 (((([] : List AV) = []) ∧
 (∃ t0 : T, (∃ left1 : Int, (∃ deep2 : Int, (([(AV.agg [(AV.int IntKind.i64 (T.k t)), (AV.int IntKind.i64 (T.n t)), (AV.str (T.s t)), (AV.slice 4 (tcellL (T.l t)) Cap.any)]), (AV.int IntKind.i64 4000), (AV.int IntKind.i64 600), (AV.agg [AV.nilfunc, (AV.func (Go.Fn.func 151) [] [(AV.vptr [(AV.func (Go.Fn.func 150) [] [])])]), (AV.func (Go.Fn.func 152) [] [(AV.vptr [(AV.func (Go.Fn.func 150) [] [])])]), (AV.func (Go.Fn.func 153) [] [(AV.vptr [(AV.func (Go.Fn.func 150) [] [])])]), (AV.func (Go.Fn.func 155) [] [(AV.vptr [(AV.func (Go.Fn.func 150) [] [])])]), (AV.func (Go.Fn.func 156) [] [(AV.vptr [(AV.func (Go.Fn.func 150) [] [])])]), (AV.func (Go.Fn.func 157) [] [(AV.vptr [(AV.func (Go.Fn.func 150) [] [])])])])] = [(AV.agg [(AV.int IntKind.i64 (T.k t0)), (AV.int IntKind.i64 (T.n t0)), (AV.str (T.s t0)), (AV.slice 4 (tcellL (T.l t0)) Cap.any)]), (AV.int IntKind.i64 (left1)), (AV.int IntKind.i64 (deep2)), (AV.agg [AV.nilfunc, (AV.func (Go.Fn.func 151) [] [(AV.vptr [(AV.func (Go.Fn.func 150) [] [])])]), (AV.func (Go.Fn.func 152) [] [(AV.vptr [(AV.func (Go.Fn.func 150) [] [])])]), (AV.func (Go.Fn.func 153) [] [(AV.vptr [(AV.func (Go.Fn.func 150) [] [])])]), (AV.func (Go.Fn.func 155) [] [(AV.vptr [(AV.func (Go.Fn.func 150) [] [])])]), (AV.func (Go.Fn.func 156) [] [(AV.vptr [(AV.func (Go.Fn.func 150) [] [])])]), (AV.func (Go.Fn.func 157) [] [(AV.vptr [(AV.func (Go.Fn.func 150) [] [])])])])]) ∧
 ((SizeOf.sizeOf t0 < N) ∧
 (bcase (decide (count t0 left1 deep2 > 4000))
 (Q (AV.int IntKind.i64 3) (State.untok (State.untok noObj)))
 (Q (AV.int IntKind.i64 0) (State.untok (State.untok noObj))))))))))) := by kernel_rfl
def C66 : Contract := fun args σ K => ∃ t : T, args = [.agg (tc t)] ∧ K (.int .i64 (chkT t)) σ.untok

mutual
def T.small : T → Prop
  | .mk _ _ _ l => l.length ≤ 64 ∧ smallL l
def smallL : List T → Prop
  | [] => True
  | x :: l => x.small ∧ smallL l
end

mutual
def same : T → T → Bool
  | .mk k n s l, u => k == u.k && (n == u.n && (bseq s u.s && (((l.length : Int) == (u.l.length : Int)) && sameL l u.l)))
def sameL : List T → List T → Bool
  | x :: l, y :: m => same x y && sameL l m
  | _, _ => true
end

def C33 (N : Nat) : Contract := fun args σ K => ∃ (a b : T), args = [.agg (tc a), .agg (tc b)] ∧ (a.small ∧ SizeOf.sizeOf a < N) ∧ K (.bool (same a b)) σ.untok
def H33 (E : Env) (N : Nat) : Hand := hnd E annA noHints [(33, C33 N)]
def N33 : FnHint := fun id i => match Nat.beq id 6 && (Nat.beq i 3 || Nat.beq i 8) with
  | true => Hint.as (fun t : T => .vptr (tc t))
  | false => Hint.no
def li33 (x y : T) : LI Nat where
  F i := [(2, .l 2 0), (3, .l 3 0), (5, .v (.int .i64 i))]
  FL _ := [(2, tc x), (3, tc y)]
  L _ := []
  m _ := 0
  I i := i ≤ x.l.length ∧ sameL x.l y.l = sameL (x.l.drop i) (y.l.drop i)
  μ i := x.l.length - i
  Ex _ e a σ := match e with
    | .exit 0 => sameL x.l y.l = true ∧ atFS a σ [] [] [] 0
    | .ret => sameL x.l y.l = false ∧ atFS a σ [(4, .v (.bool false))] [] [] 0
    | _ => False
theorem fnLoops_33 : fnLoops Tryz.prog 33 = [.loop (lbody Tryz.prog 33 0)] := by kernel_rfl
theorem vc33l (B : Nat) (w0 : World) (G : Nat → AV) (N : Nat) (x y : T) (i : Nat) : (wpC (EV B w0 G) (H33 (EV B w0 G) N) (fun _ _ _ _ => False) (annA 33) N33 (lbody Tryz.prog 33 0) ((li33 x y).post i) (frm ((li33 x y).F i) ((li33 x y).FL i)) (lst ((li33 x y).L i) ((li33 x y).m i))) =
 ((bcase (decide ((↑i : Int) < (↑(List.length (tcellL (T.l x))) : Int)))
 (((0 ≤ (↑i : Int)) ∧
 ((↑i : Int) < (↑(List.length (tcellL (T.l x))) : Int))) ∧
 (∃ x0 : T, (((AV.vptr (AV.cells (List.getD (tcellL (T.l x)) (Int.toNat (↑i : Int)) AV.undef))) = (AV.vptr [(AV.int IntKind.i64 (T.k x0)), (AV.int IntKind.i64 (T.n x0)), (AV.str (T.s x0)), (AV.slice 4 (tcellL (T.l x0)) Cap.any)])) ∧
 (((0 ≤ (↑i : Int)) ∧
 ((↑i : Int) < (↑(List.length (tcellL (T.l y))) : Int))) ∧
 (∃ x1 : T, (((AV.vptr (AV.cells (List.getD (tcellL (T.l y)) (Int.toNat (↑i : Int)) AV.undef))) = (AV.vptr [(AV.int IntKind.i64 (T.k x1)), (AV.int IntKind.i64 (T.n x1)), (AV.str (T.s x1)), (AV.slice 4 (tcellL (T.l x1)) Cap.any)])) ∧
 (∃ a2 : T, (∃ b3 : T, (([(AV.agg [(AV.int IntKind.i64 (T.k x0)), (AV.int IntKind.i64 (T.n x0)), (AV.str (T.s x0)), (AV.slice 4 (tcellL (T.l x0)) Cap.any)]), (AV.agg [(AV.int IntKind.i64 (T.k x1)), (AV.int IntKind.i64 (T.n x1)), (AV.str (T.s x1)), (AV.slice 4 (tcellL (T.l x1)) Cap.any)])] = [(AV.agg [(AV.int IntKind.i64 (T.k a2)), (AV.int IntKind.i64 (T.n a2)), (AV.str (T.s a2)), (AV.slice 4 (tcellL (T.l a2)) Cap.any)]), (AV.agg [(AV.int IntKind.i64 (T.k b3)), (AV.int IntKind.i64 (T.n b3)), (AV.str (T.s b3)), (AV.slice 4 (tcellL (T.l b3)) Cap.any)])]) ∧
 (((T.small a2) ∧
 (SizeOf.sizeOf a2 < N)) ∧
 (bcase (!same a2 b3)
 (((sameL (T.l x) (T.l y)) = false) ∧
 (((TV.v (AV.bool false)) = (TV.v (AV.bool false))) ∧
 ((0 = 0) ∧
 True)))
 (∃ x'4 : Nat, ((((x'4 ≤ List.length (T.l x)) ∧
 ((sameL (T.l x) (T.l y)) = (sameL (List.drop x'4 (T.l x)) (List.drop x'4 (T.l y))))) ∧
 (LI.μ (li33 x y) x'4 < LI.μ (li33 x y) i)) ∧
 (((TV.l 2 0) = (TV.l 2 0)) ∧
 (((TV.l 3 0) = (TV.l 3 0)) ∧
 (((TV.v (AV.int IntKind.i64 (IntKind.wrap IntKind.i64 ((↑i : Int) + 1)))) = (TV.v (AV.int IntKind.i64 ((↑x'4 : Int))))) ∧
 (([(AV.int IntKind.i64 (T.k x)), (AV.int IntKind.i64 (T.n x)), (AV.str (T.s x)), (AV.slice 4 (tcellL (T.l x)) Cap.any)] = [(AV.int IntKind.i64 (T.k x)), (AV.int IntKind.i64 (T.n x)), (AV.str (T.s x)), (AV.slice 4 (tcellL (T.l x)) Cap.any)]) ∧
 (([(AV.int IntKind.i64 (T.k y)), (AV.int IntKind.i64 (T.n y)), (AV.str (T.s y)), (AV.slice 4 (tcellL (T.l y)) Cap.any)] = [(AV.int IntKind.i64 (T.k y)), (AV.int IntKind.i64 (T.n y)), (AV.str (T.s y)), (AV.slice 4 (tcellL (T.l y)) Cap.any)]) ∧
 ((0 = 0) ∧
 True)))))))))))))))))))
 (((sameL (T.l x) (T.l y)) = true) ∧
 ((0 = 0) ∧
 True)))) := by kernel_rfl
def L33 (x y : T) : LHand := fun _ Q a σ => x.l.length = y.l.length ∧ atFS a σ ((li33 x y).F 0) ((li33 x y).FL 0) [] 0 ∧
  ((sameL x.l y.l = true → Q (.exit 0) (frm [] []) (lst [] 0)) ∧ (sameL x.l y.l = false → Q .ret (frm [(4, .v (.bool false))] []) (lst [] 0)))
theorem vc33 (B : Nat) (w0 : World) (G : Nat → AV) (N : Nat) (x y : T) (Q : AV → State → Prop) : (bodyC (EV B w0 G) (H33 (EV B w0 G) N) (L33 x y) annA N33 33 [.agg (tc x), .agg (tc y)] noObj Q) =
 ((bcase (T.k x != T.k y)
 (Q (AV.bool false) (noObj))
 (bcase (T.n x != T.n y)
 (Q (AV.bool false) (noObj))
 (bcase (!bseq (T.s x) (T.s y))
 (Q (AV.bool false) (noObj))
 (bcase ((↑(List.length (tcellL (T.l x))) : Int) != (↑(List.length (tcellL (T.l y))) : Int))
 (Q (AV.bool false) (noObj))
 (((List.length (T.l x)) = (List.length (T.l y))) ∧
 ((((TV.l 2 0) = (TV.l 2 0)) ∧
 (((TV.l 3 0) = (TV.l 3 0)) ∧
 (((TV.v (AV.int IntKind.i64 0)) = (TV.v (AV.int IntKind.i64 0))) ∧
 (([(AV.int IntKind.i64 (T.k x)), (AV.int IntKind.i64 (T.n x)), (AV.str (T.s x)), (AV.slice 4 (tcellL (T.l x)) Cap.any)] = [(AV.int IntKind.i64 (T.k x)), (AV.int IntKind.i64 (T.n x)), (AV.str (T.s x)), (AV.slice 4 (tcellL (T.l x)) Cap.any)]) ∧
 (([(AV.int IntKind.i64 (T.k y)), (AV.int IntKind.i64 (T.n y)), (AV.str (T.s y)), (AV.slice 4 (tcellL (T.l y)) Cap.any)] = [(AV.int IntKind.i64 (T.k y)), (AV.int IntKind.i64 (T.n y)), (AV.str (T.s y)), (AV.slice 4 (tcellL (T.l y)) Cap.any)]) ∧
 ((0 = 0) ∧
 True)))))) ∧
 ((((sameL (T.l x) (T.l y)) = true) → (Q (AV.bool true) (lst [] 0))) ∧
 (((sameL (T.l x) (T.l y)) = false) → (Q (AV.bool false) (lst [] 0))))))))))) := by kernel_rfl
end Go.V
