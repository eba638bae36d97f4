import Derived.Test.YtgnjidopnplbbaaGreatDoorQ17
import Derived.Test.YtgnjidopnplbbaaGreatDoorQ16
import Derived.Test.YtgnjidopnplbbaaGreatDoorQ8
/- Conditions: the law StreamFifo. -/
set_option maxRecDepth 1000000
set_option linter.unusedVariables false
namespace Go.V
open Go Go.Proofs

theorem vc30n (B : Nat) (w0 : World) (G : Nat → AV) (s : BS) (Q : AV → State → Prop) : (bodyC (EV B w0 G) (H0 (EV B w0 G)) (fun _ _ _ _ => False) annA noHint 30 [.ptr 0 0] (aloneN s) Q) =
 ((Q (AV.tuple [(AV.int IntKind.i64 (if Bool.false = Bool.true then if BS.room s > IntKind.wrap IntKind.i64 ((↑(BS.came s) : Int) - (↑(BS.deal s) : Int)) then BS.room s else IntKind.wrap IntKind.i64 ((↑(BS.came s) : Int) - (↑(BS.deal s) : Int)) else if BS.room s < IntKind.wrap IntKind.i64 ((↑(BS.came s) : Int) - (↑(BS.deal s) : Int)) then BS.room s else IntKind.wrap IntKind.i64 ((↑(BS.came s) : Int) - (↑(BS.deal s) : Int)))), (AV.int IntKind.i64 (IntKind.wrap IntKind.i64 ((IntKind.wrap IntKind.i64 ((((BS.came s) : Nat) : Int) - (((BS.deal s) : Nat) : Int))) - (if Bool.false = Bool.true then if BS.room s > IntKind.wrap IntKind.i64 ((↑(BS.came s) : Int) - (↑(BS.deal s) : Int)) then BS.room s else IntKind.wrap IntKind.i64 ((↑(BS.came s) : Int) - (↑(BS.deal s) : Int)) else if BS.room s < IntKind.wrap IntKind.i64 ((↑(BS.came s) : Int) - (↑(BS.deal s) : Int)) then BS.room s else IntKind.wrap IntKind.i64 ((↑(BS.came s) : Int) - (↑(BS.deal s) : Int)))))), (AV.int IntKind.i64 (IntKind.wrap IntKind.i64 ((((BS.asked s) : Nat) : Int) - (((BS.deal s) : Nat) : Int))))]) (lst [(AObj.cells [(AV.int IntKind.i64 (BS.room s)), (AV.int IntKind.i64 (((BS.came s) : Nat) : Int)), (AV.int IntKind.i64 (((BS.deal s) : Nat) : Int)), (AV.int IntKind.i64 (((BS.asked s) : Nat) : Int)), AV.nilslice, (AV.int IntKind.i64 0)] 129 6 false)] 1))) := by kernel_rfl
theorem vc30r (B : Nat) (w0 : World) (G : Nat → AV) (s : BS) (pre : List AV) (fr : Nat) (Q : AV → State → Prop) : (bodyC (EV B w0 G) (H0 (EV B w0 G)) (fun _ _ _ _ => False) annA noHint 30 [.ptr 0 0] (aloneR s pre fr) Q) =
 ((Q (AV.tuple [(AV.int IntKind.i64 (if Bool.false = Bool.true then if BS.room s > IntKind.wrap IntKind.i64 ((↑(BS.came s) : Int) - (↑(BS.deal s) : Int)) then BS.room s else IntKind.wrap IntKind.i64 ((↑(BS.came s) : Int) - (↑(BS.deal s) : Int)) else if BS.room s < IntKind.wrap IntKind.i64 ((↑(BS.came s) : Int) - (↑(BS.deal s) : Int)) then BS.room s else IntKind.wrap IntKind.i64 ((↑(BS.came s) : Int) - (↑(BS.deal s) : Int)))), (AV.int IntKind.i64 (IntKind.wrap IntKind.i64 ((IntKind.wrap IntKind.i64 ((((BS.came s) : Nat) : Int) - (((BS.deal s) : Nat) : Int))) - (if Bool.false = Bool.true then if BS.room s > IntKind.wrap IntKind.i64 ((↑(BS.came s) : Int) - (↑(BS.deal s) : Int)) then BS.room s else IntKind.wrap IntKind.i64 ((↑(BS.came s) : Int) - (↑(BS.deal s) : Int)) else if BS.room s < IntKind.wrap IntKind.i64 ((↑(BS.came s) : Int) - (↑(BS.deal s) : Int)) then BS.room s else IntKind.wrap IntKind.i64 ((↑(BS.came s) : Int) - (↑(BS.deal s) : Int)))))), (AV.int IntKind.i64 (IntKind.wrap IntKind.i64 ((((BS.asked s) : Nat) : Int) - (((BS.deal s) : Nat) : Int))))]) (lst [(AObj.cells [(AV.int IntKind.i64 (BS.room s)), (AV.int IntKind.i64 (((BS.came s) : Nat) : Int)), (AV.int IntKind.i64 (((BS.deal s) : Nat) : Int)), (AV.int IntKind.i64 (((BS.asked s) : Nat) : Int)), (AV.rslice 1 0 ((fr) + (List.length (BS.pend s)))), (AV.int IntKind.i64 (((fr) : Nat) : Int))] 129 6 false), (AObj.cells ((pre) ++ (flat (tcellL (BS.pend s)))) 37 4 true)] 2))) := by kernel_rfl
/-- How many items lie in a buffer, how many wait for room, how many requests wait. -/
def BS.lie (s : BS) : Int := if s.room < (s.came : Int) - (s.deal : Int) then s.room else (s.came : Int) - (s.deal : Int)
def BS.stateV (s : BS) : AV := .tuple [.int .i64 s.lie, .int .i64 ((s.came : Int) - (s.deal : Int) - s.lie), .int .i64 ((s.asked : Int) - (s.deal : Int))]

def C30 : Contract := fun args σ K => ∃ (b : Nat) (r : Option Nat) (s : BS), args = [.ptr b 0] ∧ (BufAt σ b r s ∧ s.wf ∧ (0 ≤ s.room ∧ s.room ≤ 1000)) ∧
  ∀ (r' : Option Nat) (σ' : State), BufAt σ' b r' s ∧ Keeps σ σ' b r r' → K s.stateV σ'
def C22a : Contract := fun args σ K => ∃ (b : Nat) (r : Option Nat) (s : BS), args = [.ptr b 0] ∧ (BufAt σ b r s ∧ s.wf) ∧
  ∀ (r' : Option Nat) (σ' : State), BufAt σ' b r' s.ask.2 ∧ Keeps σ σ' b r r' → ((s.askL = [] → K (.tuple [.int .i64 s.askN, .nilslice, .int .i64 s.askE]) σ') ∧ (∀ (k : Nat) (x : T), s.askL = [(k, x)] → K (.tuple [.int .i64 s.askN, .slice 6 [dealV k x] .full, .int .i64 s.askE]) σ'))
def C24a : Contract := fun args σ K => ∃ (b : Nat) (r : Option Nat) (s : BS) (t : T), args = [.ptr b 0, .agg (tc t)] ∧ (BufAt σ b r s ∧ s.wf) ∧
  ∀ (r' : Option Nat) (σ' : State), BufAt σ' b r' (s.put t).2 ∧ Keeps σ σ' b r r' → ((s.putL t = [] → K (.tuple [.int .i64 (s.putN t), .nilslice, .int .i64 (s.putE t)]) σ') ∧ (∀ (k : Nat) (x : T), s.putL t = [(k, x)] → K (.tuple [.int .i64 (s.putN t), .slice 6 [dealV k x] .full, .int .i64 (s.putE t)]) σ'))

def H7 (E : Env) (N : Nat) : Hand := hnd E annA noHints [(16, C16), (22, C22a), (24, C24a), (30, C30), (32, C32), (33, C33 N)]
structure O7 where
  l : List T
  g : Bool
def obj7 (o : O7) : AObj := .cells (flat (tcellL o.l)) 37 4 o.g
def N7 : FnHint := fun id i => match ((Nat.beq id 14 || Nat.beq id 20) && Nat.beq i 2) || ((Nat.beq id 21 || Nat.beq id 24) && Nat.beq i 3) with
  | true => Hint.as (fun c : Came => .vptr (cc c))
  | false => match Nat.beq id 29 && Nat.beq i 22 with
    | true => Hint.ofAs obj7 (fun t : T => .agg (tc t))
    | false => match (Nat.beq id 29 && Nat.beq i 21) || (Nat.beq id 24 && Nat.beq i 7) with
      | true => Hint.of obj7
      | false => Hint.no
def A7 : Nat → FnAnn := fun f => match Nat.beq f 7 with
  | true => ⟨fun id i => annB ((luk ([] : List Nat) [(8, [0]), (24, [7])] id).contains i), luk [] [(29, [23])]⟩
  | false => annA f

structure X7 where
  i : Nat
  σ : State
  r : Option Nat
  s : BS
  l : List T
  io : Nat
  g : Bool
structure X7.Inv (x : X7) (n : Int) : Prop where
  i : x.i ≤ 150
  wf : x.s.wf
  room : x.s.room = n
  a : BufAt x.σ 0 x.r x.s
  o : x.σ.objs x.io = .cells (flat (tcellL x.l)) 37 4 x.g
  io : x.io < x.σ.next
  io0 : x.io ≠ 0
  ior : x.r ≠ some x.io
  came : x.l.length = x.s.came
  pend : x.s.pend = x.l.drop x.s.deal
  small : ∀ t ∈ x.l, t.small
  asked : x.s.asked ≤ x.i
  came2 : x.s.came ≤ x.i
  full : x.s.deal = min x.s.asked x.s.came
def ls7 (n : Int) (l : List Came) : LS X7 where
  F x := [(0, .v (.int .i64 n)), (1, .v (.slice 5 (cameL l) .any)), (5, .v (.ptr 0 0)), (7, .v (.rslice x.io 0 x.l.length)), (8, .v (.int .i64 x.s.asked)), (9, .v (.int .i64 x.s.deal)), (10, .v (.int .i64 x.i))]
  FL _ := []
  S x := x.σ
  I x := x.Inv n
  μ x := 150 - x.i
  Ex _ e a σ := match e with
    | .exit 0 => True
    | _ => False
theorem fnParts_7 : fnParts Tryz.prog [33] 7 = [.loop (bodyOf (fnPart Tryz.prog [33] 7 0))] := by kernel_rfl
theorem subParts_7 : partsIn [33] (bodyOf (fnPart Tryz.prog [33] 7 0)) = [subPart [33] (fnPart Tryz.prog [33] 7 0) 0, subPart [33] (fnPart Tryz.prog [33] 7 0) 1] := by kernel_rfl
theorem headId_7 : headId (subPart [33] (fnPart Tryz.prog [33] 7 0) 0) = some 27 ∧ headId (subPart [33] (fnPart Tryz.prog [33] 7 0) 1) = some 33 := ⟨by kernel_rfl, by kernel_rfl⟩

/-- Behind what comes. -/
structure X7.Mid (x : X7) (n : Int) : Prop where
  i : x.i < 150
  wf : x.s.wf
  room : x.s.room = n
  rn : 0 ≤ n ∧ n ≤ 1000
  a : BufAt x.σ 0 x.r x.s
  came : x.l.length = x.s.came
  asked : x.s.asked ≤ x.i + 1
  came2 : x.s.came ≤ x.i + 1
  full : x.s.deal = min x.s.asked x.s.came
structure Y7 where
  r : Option Nat
  σ : State
def cs7 (n : Int) (l : List Came) (x : X7) : CS Y7 where
  I y := BufAt y.σ 0 y.r x.s ∧ Keeps x.σ y.σ 0 x.r y.r
  F _ := (ls7 n l).F x
  FL _ := []
  S y := y.σ
theorem vc7t (B : Nat) (w0 : World) (G : Nat → AV) (N : Nat) (n : Int) (l : List Came) (x : X7) : (wpX [] (EV B w0 G) (H7 (EV B w0 G) N) (fun _ _ _ _ => False) (A7 7) N7 (subPart [33] (fnPart Tryz.prog [33] 7 0) 1) ((cs7 n l x).post) (frm ((ls7 n l).F x) ((ls7 n l).FL x)) ((ls7 n l).S x)) =
 ((∃ b0 : Nat, (∃ r1 : Option Nat, (∃ s2 : BS, (([(AV.ptr 0 0)] = [(AV.ptr (b0) 0)]) ∧
 (((BufAt ((ls7 n l).3 x) (b0) (r1) (s2)) ∧
 ((BS.wf s2) ∧
 (((0 : Int) ≤ (BS.room s2)) ∧
 (((BS.room s2) : Int) ≤ 1000)))) ∧
 (∀ r'3 : Option Nat, (∀ σ'4 : State, (((BufAt σ'4 (b0) (r'3) (s2)) ∧
 (Keeps ((ls7 n l).3 x) σ'4 (b0) (r1) (r'3))) → (bcase (((((BS.deal (X7.s x)) : Nat) : Int) : Int) != (if Bool.false = Bool.true then if (↑(List.length (X7.l x)) : Int) > (↑(BS.asked (X7.s x)) : Int) then (↑(List.length (X7.l x)) : Int) else (↑(BS.asked (X7.s x)) : Int) else if (↑(List.length (X7.l x)) : Int) < (↑(BS.asked (X7.s x)) : Int) then (↑(List.length (X7.l x)) : Int) else (↑(BS.asked (X7.s x)) : Int)))
 False
 (bcase (decide (((BS.lie s2) : Int) < 0))
 False
 (bcase (decide (((BS.lie s2) : Int) > (n)))
 False
 (bcase (decide (((((((BS.came s2) : Nat) : Int) - (((BS.deal s2) : Nat) : Int)) - (BS.lie s2)) : Int) < 0))
 False
 (bcase ((((((BS.asked s2) : Nat) : Int) - (((BS.deal s2) : Nat) : Int)) : Int) != (IntKind.wrap IntKind.i64 ((((BS.asked (X7.s x)) : Nat) : Int) - (((BS.deal (X7.s x)) : Nat) : Int))))
 False
 (bcase (((IntKind.wrap IntKind.i64 ((BS.lie s2) + (((((BS.came s2) : Nat) : Int) - (((BS.deal s2) : Nat) : Int)) - (BS.lie s2)))) : Int) != (IntKind.wrap IntKind.i64 ((((List.length (X7.l x)) : Nat) : Int) - (((BS.deal (X7.s x)) : Nat) : Int))))
 False
 (bcase (decide (((((((BS.came s2) : Nat) : Int) - (((BS.deal s2) : Nat) : Int)) - (BS.lie s2)) : Int) > 0))
 (bcase (decide (((BS.lie s2) : Int) < (n)))
 False
 (bcase (decide (((BS.lie s2) : Int) > 0))
 (bcase (decide ((((((BS.asked s2) : Nat) : Int) - (((BS.deal s2) : Nat) : Int)) : Int) > 0))
 False
 (∃ y5 : Y7, (((BufAt (y5.2) 0 (Y7.r y5) (X7.s x)) ∧
 (Keeps (x.2) (y5.2) 0 (X7.r x) (Y7.r y5))) ∧
 (((TV.v (AV.int IntKind.i64 (n))) = (TV.v (AV.int IntKind.i64 (n)))) ∧
 (((TV.v (AV.slice 5 (cameL l) Cap.any)) = (TV.v (AV.slice 5 (cameL l) Cap.any))) ∧
 (((TV.v (AV.ptr 0 0)) = (TV.v (AV.ptr 0 0))) ∧
 (((TV.v (AV.rslice (X7.io x) 0 (List.length (X7.l x)))) = (TV.v (AV.rslice (X7.io x) 0 (List.length (X7.l x))))) ∧
 (((TV.v (AV.int IntKind.i64 (((BS.asked (X7.s x)) : Nat) : Int))) = (TV.v (AV.int IntKind.i64 (((BS.asked (X7.s x)) : Nat) : Int)))) ∧
 (((TV.v (AV.int IntKind.i64 (((BS.deal (X7.s x)) : Nat) : Int))) = (TV.v (AV.int IntKind.i64 (((BS.deal (X7.s x)) : Nat) : Int)))) ∧
 (((TV.v (AV.int IntKind.i64 (((X7.i x) : Nat) : Int))) = (TV.v (AV.int IntKind.i64 (((X7.i x) : Nat) : Int)))) ∧
 (State.Le ((cs7 n l x).4 y5) σ'4)))))))))))
 (∃ y5 : Y7, (((BufAt (y5.2) 0 (Y7.r y5) (X7.s x)) ∧
 (Keeps (x.2) (y5.2) 0 (X7.r x) (Y7.r y5))) ∧
 (((TV.v (AV.int IntKind.i64 (n))) = (TV.v (AV.int IntKind.i64 (n)))) ∧
 (((TV.v (AV.slice 5 (cameL l) Cap.any)) = (TV.v (AV.slice 5 (cameL l) Cap.any))) ∧
 (((TV.v (AV.ptr 0 0)) = (TV.v (AV.ptr 0 0))) ∧
 (((TV.v (AV.rslice (X7.io x) 0 (List.length (X7.l x)))) = (TV.v (AV.rslice (X7.io x) 0 (List.length (X7.l x))))) ∧
 (((TV.v (AV.int IntKind.i64 (((BS.asked (X7.s x)) : Nat) : Int))) = (TV.v (AV.int IntKind.i64 (((BS.asked (X7.s x)) : Nat) : Int)))) ∧
 (((TV.v (AV.int IntKind.i64 (((BS.deal (X7.s x)) : Nat) : Int))) = (TV.v (AV.int IntKind.i64 (((BS.deal (X7.s x)) : Nat) : Int)))) ∧
 (((TV.v (AV.int IntKind.i64 (((X7.i x) : Nat) : Int))) = (TV.v (AV.int IntKind.i64 (((X7.i x) : Nat) : Int)))) ∧
 (State.Le ((cs7 n l x).4 y5) σ'4))))))))))))
 (bcase (decide (((BS.lie s2) : Int) > 0))
 (bcase (decide ((((((BS.asked s2) : Nat) : Int) - (((BS.deal s2) : Nat) : Int)) : Int) > 0))
 False
 (∃ y5 : Y7, (((BufAt (y5.2) 0 (Y7.r y5) (X7.s x)) ∧
 (Keeps (x.2) (y5.2) 0 (X7.r x) (Y7.r y5))) ∧
 (((TV.v (AV.int IntKind.i64 (n))) = (TV.v (AV.int IntKind.i64 (n)))) ∧
 (((TV.v (AV.slice 5 (cameL l) Cap.any)) = (TV.v (AV.slice 5 (cameL l) Cap.any))) ∧
 (((TV.v (AV.ptr 0 0)) = (TV.v (AV.ptr 0 0))) ∧
 (((TV.v (AV.rslice (X7.io x) 0 (List.length (X7.l x)))) = (TV.v (AV.rslice (X7.io x) 0 (List.length (X7.l x))))) ∧
 (((TV.v (AV.int IntKind.i64 (((BS.asked (X7.s x)) : Nat) : Int))) = (TV.v (AV.int IntKind.i64 (((BS.asked (X7.s x)) : Nat) : Int)))) ∧
 (((TV.v (AV.int IntKind.i64 (((BS.deal (X7.s x)) : Nat) : Int))) = (TV.v (AV.int IntKind.i64 (((BS.deal (X7.s x)) : Nat) : Int)))) ∧
 (((TV.v (AV.int IntKind.i64 (((X7.i x) : Nat) : Int))) = (TV.v (AV.int IntKind.i64 (((X7.i x) : Nat) : Int)))) ∧
 (State.Le ((cs7 n l x).4 y5) σ'4)))))))))))
 (∃ y5 : Y7, (((BufAt (y5.2) 0 (Y7.r y5) (X7.s x)) ∧
 (Keeps (x.2) (y5.2) 0 (X7.r x) (Y7.r y5))) ∧
 (((TV.v (AV.int IntKind.i64 (n))) = (TV.v (AV.int IntKind.i64 (n)))) ∧
 (((TV.v (AV.slice 5 (cameL l) Cap.any)) = (TV.v (AV.slice 5 (cameL l) Cap.any))) ∧
 (((TV.v (AV.ptr 0 0)) = (TV.v (AV.ptr 0 0))) ∧
 (((TV.v (AV.rslice (X7.io x) 0 (List.length (X7.l x)))) = (TV.v (AV.rslice (X7.io x) 0 (List.length (X7.l x))))) ∧
 (((TV.v (AV.int IntKind.i64 (((BS.asked (X7.s x)) : Nat) : Int))) = (TV.v (AV.int IntKind.i64 (((BS.asked (X7.s x)) : Nat) : Int)))) ∧
 (((TV.v (AV.int IntKind.i64 (((BS.deal (X7.s x)) : Nat) : Int))) = (TV.v (AV.int IntKind.i64 (((BS.deal (X7.s x)) : Nat) : Int)))) ∧
 (((TV.v (AV.int IntKind.i64 (((X7.i x) : Nat) : Int))) = (TV.v (AV.int IntKind.i64 (((X7.i x) : Nat) : Int)))) ∧
 (State.Le ((cs7 n l x).4 y5) σ'4))))))))))))))))))))))))))) := by kernel_rfl
def T7 (n : Int) (l : List Came) : LHand := fun _ Q a σ => ∃ x : X7, x.Mid n ∧ atF a ((ls7 n l).F x) [] (x.σ.Le σ) ∧ ∀ y : Y7, (BufAt y.σ 0 y.r x.s ∧ Keeps x.σ y.σ 0 x.r y.r) → Q .normal (frm ((ls7 n l).F x) []) y.σ
theorem vc7l (B : Nat) (w0 : World) (G : Nat → AV) (N : Nat) (n : Int) (l : List Came) (x : X7) : (wpX [33] (EV B w0 G) (H7 (EV B w0 G) N) (handL [(33, T7 n l), (27, loopC (EV B w0 G) (H7 (EV B w0 G) N) 7 none (fnTmps Tryz.prog 7) (A7 7) N7 5)]) (A7 7) N7 (bodyOf (fnPart Tryz.prog [33] 7 0)) ((ls7 n l).post x) (frm ((ls7 n l).F x) ((ls7 n l).FL x)) ((ls7 n l).S x)) =
 ((bcase (decide (((((X7.i x) : Nat) : Int) : Int) < (((List.length (cameL l)) : Nat) : Int)))
 (bcase (decide (((((X7.i x) : Nat) : Int) : Int) < 150))
 ((((0 : Int) ≤ (((X7.i x) : Nat) : Int)) ∧
 (((((X7.i x) : Nat) : Int) : Int) < (((List.length (cameL l)) : Nat) : Int))) ∧
 (∃ x0 : Came, (((AV.vptr (AV.cells (List.getD (cameL l) (Int.toNat (↑(X7.i x) : Int)) AV.undef))) = (AV.vptr [(AV.bool (Came.ask x0)), (AV.int IntKind.i64 (T.k (Came.t x0))), (AV.int IntKind.i64 (T.n (Came.t x0))), (AV.str (T.s (Came.t x0))), (AV.slice 4 (tcellL (T.l (Came.t x0))) Cap.any)])) ∧
 (bcase (Came.ask x0)
 (∃ b1 : Nat, (∃ r2 : Option Nat, (∃ s3 : BS, (([(AV.ptr 0 0)] = [(AV.ptr (b1) 0)]) ∧
 (((BufAt ((ls7 n l).3 x) (b1) (r2) (s3)) ∧
 (BS.wf s3)) ∧
 (∀ r'4 : Option Nat, (∀ σ'5 : State, (((BufAt σ'5 (b1) (r'4) (Prod.snd (BS.ask s3))) ∧
 (Keeps ((ls7 n l).3 x) σ'5 (b1) (r2) (r'4))) → ((((BS.askL s3) = []) → (bcase (((BS.askE s3) : Int) != 0)
 False
 (bcase (((((BS.askN s3) : Nat) : Int) : Int) != (((BS.asked (X7.s x)) : Nat) : Int))
 False
 (∃ x6 : X7, ((X7.Mid x6 n) ∧
 ((((TV.v (AV.int IntKind.i64 (n))) = (TV.v (AV.int IntKind.i64 (n)))) ∧
 (((TV.v (AV.slice 5 (cameL l) Cap.any)) = (TV.v (AV.slice 5 (cameL l) Cap.any))) ∧
 (((TV.v (AV.ptr 0 0)) = (TV.v (AV.ptr 0 0))) ∧
 (((TV.v (AV.rslice (X7.io x) 0 (List.length (X7.l x)))) = (TV.v (AV.rslice (X7.io x6) 0 (List.length (X7.l x6))))) ∧
 (((TV.v (AV.int IntKind.i64 (IntKind.wrap IntKind.i64 ((((BS.asked (X7.s x)) : Nat) : Int) + 1)))) = (TV.v (AV.int IntKind.i64 (((BS.asked (X7.s x6)) : Nat) : Int)))) ∧
 (((TV.v (AV.int IntKind.i64 (((BS.deal (X7.s x)) : Nat) : Int))) = (TV.v (AV.int IntKind.i64 (((BS.deal (X7.s x6)) : Nat) : Int)))) ∧
 (((TV.v (AV.int IntKind.i64 (((X7.i x) : Nat) : Int))) = (TV.v (AV.int IntKind.i64 (((X7.i x6) : Nat) : Int)))) ∧
 (State.Le (x6.2) σ'5)))))))) ∧
 (∀ y7 : Y7, (((BufAt (y7.2) 0 (Y7.r y7) (X7.s x6)) ∧
 (Keeps (x6.2) (y7.2) 0 (X7.r x6) (Y7.r y7))) → (∃ x'8 : X7, (((LS.I (ls7 n l) x'8) ∧
 (((LS.μ (ls7 n l) x'8) : Nat) < (LS.μ (ls7 n l) x))) ∧
 (((TV.v (AV.int IntKind.i64 (n))) = (TV.v (AV.int IntKind.i64 (n)))) ∧
 (((TV.v (AV.slice 5 (cameL l) Cap.any)) = (TV.v (AV.slice 5 (cameL l) Cap.any))) ∧
 (((TV.v (AV.ptr 0 0)) = (TV.v (AV.ptr 0 0))) ∧
 (((TV.v (AV.rslice (X7.io x6) 0 (List.length (X7.l x6)))) = (TV.v (AV.rslice (X7.io x'8) 0 (List.length (X7.l x'8))))) ∧
 (((TV.v (AV.int IntKind.i64 (((BS.asked (X7.s x6)) : Nat) : Int))) = (TV.v (AV.int IntKind.i64 (((BS.asked (X7.s x'8)) : Nat) : Int)))) ∧
 (((TV.v (AV.int IntKind.i64 (((BS.deal (X7.s x6)) : Nat) : Int))) = (TV.v (AV.int IntKind.i64 (((BS.deal (X7.s x'8)) : Nat) : Int)))) ∧
 (((TV.v (AV.int IntKind.i64 (IntKind.wrap IntKind.i64 ((((X7.i x6) : Nat) : Int) + 1)))) = (TV.v (AV.int IntKind.i64 (((X7.i x'8) : Nat) : Int)))) ∧
 (State.Le ((ls7 n l).3 x'8) (y7.2))))))))))))))))))) ∧
 (∀ k6 : Nat, (∀ x7 : T, (((BS.askL s3) = [(Prod.mk (k6) (x7))]) → (bcase (((BS.askE s3) : Int) != 0)
 False
 (bcase (((((BS.askN s3) : Nat) : Int) : Int) != (((BS.asked (X7.s x)) : Nat) : Int))
 False
 (bcase (((((k6) : Nat) : Int) : Int) != (((BS.deal (X7.s x)) : Nat) : Int))
 False
 (bcase (((((k6) : Nat) : Int) : Int) != (((BS.deal (X7.s x)) : Nat) : Int))
 False
 (bcase (decide (((((BS.deal (X7.s x)) : Nat) : Int) : Int) ≥ (((List.length (X7.l x)) : Nat) : Int)))
 False
 (∃ a8 : O7, (((State.objs σ'5 (X7.io x)) = (AObj.cells (flat (tcellL (O7.l a8))) 37 4 (O7.g a8))) ∧
 ((((0 : Int) ≤ (((BS.deal (X7.s x)) : Nat) : Int)) ∧
 (((((BS.deal (X7.s x)) : Nat) : Int) : Int) < (((List.length (X7.l x)) : Nat) : Int))) ∧
 (∃ a9 : O7, (((State.objs σ'5 (X7.io x)) = (AObj.cells (flat (tcellL (O7.l a9))) 37 4 (O7.g a9))) ∧
 ((((((0 + (Int.toNat (((BS.deal (X7.s x)) : Nat) : Int))) * 4) + 4) : Nat) ≤ (List.length (flat (tcellL (O7.l a9))))) ∧
 (∃ x10 : T, (((AV.agg (List.take 4 (List.drop ((0 + (Int.toNat (((BS.deal (X7.s x)) : Nat) : Int))) * 4) (flat (tcellL (O7.l a9)))))) = (AV.agg [(AV.int IntKind.i64 (T.k x10)), (AV.int IntKind.i64 (T.n x10)), (AV.str (T.s x10)), (AV.slice 4 (tcellL (T.l x10)) Cap.any)])) ∧
 (∃ a11 : T, (∃ b12 : T, (([(AV.agg [(AV.int IntKind.i64 (T.k x7)), (AV.int IntKind.i64 (T.n x7)), (AV.str (T.s x7)), (AV.slice 4 (tcellL (T.l x7)) Cap.any)]), (AV.agg [(AV.int IntKind.i64 (T.k x10)), (AV.int IntKind.i64 (T.n x10)), (AV.str (T.s x10)), (AV.slice 4 (tcellL (T.l x10)) Cap.any)])] = [(AV.agg [(AV.int IntKind.i64 (T.k a11)), (AV.int IntKind.i64 (T.n a11)), (AV.str (T.s a11)), (AV.slice 4 (tcellL (T.l a11)) Cap.any)]), (AV.agg [(AV.int IntKind.i64 (T.k b12)), (AV.int IntKind.i64 (T.n b12)), (AV.str (T.s b12)), (AV.slice 4 (tcellL (T.l b12)) Cap.any)])]) ∧
 (((T.small a11) ∧
 (((SizeOf.sizeOf a11) : Nat) < (N))) ∧
 (bcase (!(same a11 b12))
 False
 (∃ x13 : X7, ((X7.Mid x13 n) ∧
 ((((TV.v (AV.int IntKind.i64 (n))) = (TV.v (AV.int IntKind.i64 (n)))) ∧
 (((TV.v (AV.slice 5 (cameL l) Cap.any)) = (TV.v (AV.slice 5 (cameL l) Cap.any))) ∧
 (((TV.v (AV.ptr 0 0)) = (TV.v (AV.ptr 0 0))) ∧
 (((TV.v (AV.rslice (X7.io x) 0 (List.length (X7.l x)))) = (TV.v (AV.rslice (X7.io x13) 0 (List.length (X7.l x13))))) ∧
 (((TV.v (AV.int IntKind.i64 (IntKind.wrap IntKind.i64 ((((BS.asked (X7.s x)) : Nat) : Int) + 1)))) = (TV.v (AV.int IntKind.i64 (((BS.asked (X7.s x13)) : Nat) : Int)))) ∧
 (((TV.v (AV.int IntKind.i64 (IntKind.wrap IntKind.i64 ((((BS.deal (X7.s x)) : Nat) : Int) + 1)))) = (TV.v (AV.int IntKind.i64 (((BS.deal (X7.s x13)) : Nat) : Int)))) ∧
 (((TV.v (AV.int IntKind.i64 (((X7.i x) : Nat) : Int))) = (TV.v (AV.int IntKind.i64 (((X7.i x13) : Nat) : Int)))) ∧
 (State.Le (x13.2) (State.untok σ'5))))))))) ∧
 (∀ y14 : Y7, (((BufAt (y14.2) 0 (Y7.r y14) (X7.s x13)) ∧
 (Keeps (x13.2) (y14.2) 0 (X7.r x13) (Y7.r y14))) → (∃ x'15 : X7, (((LS.I (ls7 n l) x'15) ∧
 (((LS.μ (ls7 n l) x'15) : Nat) < (LS.μ (ls7 n l) x))) ∧
 (((TV.v (AV.int IntKind.i64 (n))) = (TV.v (AV.int IntKind.i64 (n)))) ∧
 (((TV.v (AV.slice 5 (cameL l) Cap.any)) = (TV.v (AV.slice 5 (cameL l) Cap.any))) ∧
 (((TV.v (AV.ptr 0 0)) = (TV.v (AV.ptr 0 0))) ∧
 (((TV.v (AV.rslice (X7.io x13) 0 (List.length (X7.l x13)))) = (TV.v (AV.rslice (X7.io x'15) 0 (List.length (X7.l x'15))))) ∧
 (((TV.v (AV.int IntKind.i64 (((BS.asked (X7.s x13)) : Nat) : Int))) = (TV.v (AV.int IntKind.i64 (((BS.asked (X7.s x'15)) : Nat) : Int)))) ∧
 (((TV.v (AV.int IntKind.i64 (((BS.deal (X7.s x13)) : Nat) : Int))) = (TV.v (AV.int IntKind.i64 (((BS.deal (X7.s x'15)) : Nat) : Int)))) ∧
 (((TV.v (AV.int IntKind.i64 (IntKind.wrap IntKind.i64 ((((X7.i x13) : Nat) : Int) + 1)))) = (TV.v (AV.int IntKind.i64 (((X7.i x'15) : Nat) : Int)))) ∧
 (State.Le ((ls7 n l).3 x'15) (y14.2))))))))))))))))))))))))))))))))))))))))))))))
 ((((0 : Int) ≤ (((X7.i x) : Nat) : Int)) ∧
 (((((X7.i x) : Nat) : Int) : Int) < (((List.length (cameL l)) : Nat) : Int))) ∧
 (∃ x1 : Came, (((AV.vptr (AV.cells (List.getD (cameL l) (Int.toNat (↑(X7.i x) : Int)) AV.undef))) = (AV.vptr [(AV.bool (Came.ask x1)), (AV.int IntKind.i64 (T.k (Came.t x1))), (AV.int IntKind.i64 (T.n (Came.t x1))), (AV.str (T.s (Came.t x1))), (AV.slice 4 (tcellL (T.l (Came.t x1))) Cap.any)])) ∧
 (∃ t2 : T, (([(AV.agg [(AV.int IntKind.i64 (T.k (Came.t x1))), (AV.int IntKind.i64 (T.n (Came.t x1))), (AV.str (T.s (Came.t x1))), (AV.slice 4 (tcellL (T.l (Came.t x1))) Cap.any)])] = [(AV.agg [(AV.int IntKind.i64 (T.k t2)), (AV.int IntKind.i64 (T.n t2)), (AV.str (T.s t2)), (AV.slice 4 (tcellL (T.l t2)) Cap.any)])]) ∧
 ((((T.bulk t2) : Nat) ≤ 1099511627776) ∧
 (bcase (((chkT t2) : Int) == 0)
 ((((0 : Int) ≤ (((X7.i x) : Nat) : Int)) ∧
 (((((X7.i x) : Nat) : Int) : Int) < (((List.length (cameL l)) : Nat) : Int))) ∧
 (∃ x3 : Came, (((AV.vptr (AV.cells (List.getD (cameL l) (Int.toNat (↑(X7.i x) : Int)) AV.undef))) = (AV.vptr [(AV.bool (Came.ask x3)), (AV.int IntKind.i64 (T.k (Came.t x3))), (AV.int IntKind.i64 (T.n (Came.t x3))), (AV.str (T.s (Came.t x3))), (AV.slice 4 (tcellL (T.l (Came.t x3))) Cap.any)])) ∧
 (∃ b4 : Nat, (∃ r5 : Option Nat, (∃ s6 : BS, (∃ t7 : T, (([(AV.ptr 0 0), (AV.agg [(AV.int IntKind.i64 (T.k (Came.t x3))), (AV.int IntKind.i64 (T.n (Came.t x3))), (AV.str (T.s (Came.t x3))), (AV.slice 4 (tcellL (T.l (Came.t x3))) Cap.any)])] = [(AV.ptr (b4) 0), (AV.agg [(AV.int IntKind.i64 (T.k t7)), (AV.int IntKind.i64 (T.n t7)), (AV.str (T.s t7)), (AV.slice 4 (tcellL (T.l t7)) Cap.any)])]) ∧
 (((BufAt (State.untok ((ls7 n l).3 x)) (b4) (r5) (s6)) ∧
 (BS.wf s6)) ∧
 (∀ r'8 : Option Nat, (∀ σ'9 : State, (((BufAt σ'9 (b4) (r'8) (Prod.snd (BS.put s6 t7))) ∧
 (Keeps (State.untok ((ls7 n l).3 x)) σ'9 (b4) (r5) (r'8))) → ((((BS.putL s6 t7) = []) → (bcase (((BS.putE s6 t7) : Int) != 0)
 False
 (bcase (((((BS.putN s6 t7) : Nat) : Int) : Int) != (((List.length (X7.l x)) : Nat) : Int))
 False
 ((((0 : Int) ≤ (((X7.i x) : Nat) : Int)) ∧
 (((((X7.i x) : Nat) : Int) : Int) < (((List.length (cameL l)) : Nat) : Int))) ∧
 (∃ x10 : Came, (((AV.vptr (AV.cells (List.getD (cameL l) (Int.toNat (↑(X7.i x) : Int)) AV.undef))) = (AV.vptr [(AV.bool (Came.ask x10)), (AV.int IntKind.i64 (T.k (Came.t x10))), (AV.int IntKind.i64 (T.n (Came.t x10))), (AV.str (T.s (Came.t x10))), (AV.slice 4 (tcellL (T.l (Came.t x10))) Cap.any)])) ∧
 (∃ a11 : O7, (((State.objs σ'9 (X7.io x)) = (AObj.cells (flat (tcellL (O7.l a11))) 37 4 (O7.g a11))) ∧
 ((((0 : Nat) = 0) ∧
 (((((((List.length (X7.l x)) + 1) * 56) : Nat) ≤ 140737488355328) ∧
 ((((List.length (X7.l x)) + 1) : Nat) ≤ 4611686018427387904)) ∧
 ((((List.length (X7.l x)) * 4) : Nat) ≤ (List.length (flat (tcellL (O7.l a11))))))) ∧
 (∃ x12 : X7, ((X7.Mid x12 n) ∧
 ((((TV.v (AV.int IntKind.i64 (n))) = (TV.v (AV.int IntKind.i64 (n)))) ∧
 (((TV.v (AV.slice 5 (cameL l) Cap.any)) = (TV.v (AV.slice 5 (cameL l) Cap.any))) ∧
 (((TV.v (AV.ptr 0 0)) = (TV.v (AV.ptr 0 0))) ∧
 (((TV.v (AV.rslice (State.next σ'9) 0 ((List.length (X7.l x)) + 1))) = (TV.v (AV.rslice (X7.io x12) 0 (List.length (X7.l x12))))) ∧
 (((TV.v (AV.int IntKind.i64 (((BS.asked (X7.s x)) : Nat) : Int))) = (TV.v (AV.int IntKind.i64 (((BS.asked (X7.s x12)) : Nat) : Int)))) ∧
 (((TV.v (AV.int IntKind.i64 (((BS.deal (X7.s x)) : Nat) : Int))) = (TV.v (AV.int IntKind.i64 (((BS.deal (X7.s x12)) : Nat) : Int)))) ∧
 (((TV.v (AV.int IntKind.i64 (((X7.i x) : Nat) : Int))) = (TV.v (AV.int IntKind.i64 (((X7.i x12) : Nat) : Int)))) ∧
 (State.Le (x12.2) (State.new (State.set σ'9 (X7.io x) AObj.dead) (AObj.cells ((List.take ((List.length (X7.l x)) * 4) (flat (tcellL (O7.l a11)))) ++ [(AV.int IntKind.i64 (T.k (Came.t x10))), (AV.int IntKind.i64 (T.n (Came.t x10))), (AV.str (T.s (Came.t x10))), (AV.slice 4 (tcellL (T.l (Came.t x10))) Cap.any)]) 37 4 true)))))))))) ∧
 (∀ y13 : Y7, (((BufAt (y13.2) 0 (Y7.r y13) (X7.s x12)) ∧
 (Keeps (x12.2) (y13.2) 0 (X7.r x12) (Y7.r y13))) → (∃ x'14 : X7, (((LS.I (ls7 n l) x'14) ∧
 (((LS.μ (ls7 n l) x'14) : Nat) < (LS.μ (ls7 n l) x))) ∧
 (((TV.v (AV.int IntKind.i64 (n))) = (TV.v (AV.int IntKind.i64 (n)))) ∧
 (((TV.v (AV.slice 5 (cameL l) Cap.any)) = (TV.v (AV.slice 5 (cameL l) Cap.any))) ∧
 (((TV.v (AV.ptr 0 0)) = (TV.v (AV.ptr 0 0))) ∧
 (((TV.v (AV.rslice (X7.io x12) 0 (List.length (X7.l x12)))) = (TV.v (AV.rslice (X7.io x'14) 0 (List.length (X7.l x'14))))) ∧
 (((TV.v (AV.int IntKind.i64 (((BS.asked (X7.s x12)) : Nat) : Int))) = (TV.v (AV.int IntKind.i64 (((BS.asked (X7.s x'14)) : Nat) : Int)))) ∧
 (((TV.v (AV.int IntKind.i64 (((BS.deal (X7.s x12)) : Nat) : Int))) = (TV.v (AV.int IntKind.i64 (((BS.deal (X7.s x'14)) : Nat) : Int)))) ∧
 (((TV.v (AV.int IntKind.i64 (IntKind.wrap IntKind.i64 ((((X7.i x12) : Nat) : Int) + 1)))) = (TV.v (AV.int IntKind.i64 (((X7.i x'14) : Nat) : Int)))) ∧
 (State.Le ((ls7 n l).3 x'14) (y13.2))))))))))))))))))))))))) ∧
 (∀ k10 : Nat, (∀ x11 : T, (((BS.putL s6 t7) = [(Prod.mk (k10) (x11))]) → (bcase (((BS.putE s6 t7) : Int) != 0)
 False
 (bcase (((((BS.putN s6 t7) : Nat) : Int) : Int) != (((List.length (X7.l x)) : Nat) : Int))
 False
 ((((0 : Int) ≤ (((X7.i x) : Nat) : Int)) ∧
 (((((X7.i x) : Nat) : Int) : Int) < (((List.length (cameL l)) : Nat) : Int))) ∧
 (∃ x12 : Came, (((AV.vptr (AV.cells (List.getD (cameL l) (Int.toNat (↑(X7.i x) : Int)) AV.undef))) = (AV.vptr [(AV.bool (Came.ask x12)), (AV.int IntKind.i64 (T.k (Came.t x12))), (AV.int IntKind.i64 (T.n (Came.t x12))), (AV.str (T.s (Came.t x12))), (AV.slice 4 (tcellL (T.l (Came.t x12))) Cap.any)])) ∧
 (∃ a13 : O7, (((State.objs σ'9 (X7.io x)) = (AObj.cells (flat (tcellL (O7.l a13))) 37 4 (O7.g a13))) ∧
 ((((0 : Nat) = 0) ∧
 (((((((List.length (X7.l x)) + 1) * 56) : Nat) ≤ 140737488355328) ∧
 ((((List.length (X7.l x)) + 1) : Nat) ≤ 4611686018427387904)) ∧
 ((((List.length (X7.l x)) * 4) : Nat) ≤ (List.length (flat (tcellL (O7.l a13))))))) ∧
 (bcase (((((k10) : Nat) : Int) : Int) != (((BS.deal (X7.s x)) : Nat) : Int))
 False
 (bcase (((((k10) : Nat) : Int) : Int) != (((BS.deal (X7.s x)) : Nat) : Int))
 False
 (bcase (decide (((((BS.deal (X7.s x)) : Nat) : Int) : Int) ≥ ((((List.length (X7.l x)) + 1) : Nat) : Int)))
 False
 (∃ a14 : O7, (((State.objs (State.new (State.set σ'9 (X7.io x) AObj.dead) (AObj.cells ((List.take ((List.length (X7.l x)) * 4) (flat (tcellL (O7.l a13)))) ++ [(AV.int IntKind.i64 (T.k (Came.t x12))), (AV.int IntKind.i64 (T.n (Came.t x12))), (AV.str (T.s (Came.t x12))), (AV.slice 4 (tcellL (T.l (Came.t x12))) Cap.any)]) 37 4 true)) (State.next σ'9)) = (AObj.cells (flat (tcellL (O7.l a14))) 37 4 (O7.g a14))) ∧
 ((((0 : Int) ≤ (((BS.deal (X7.s x)) : Nat) : Int)) ∧
 (((((BS.deal (X7.s x)) : Nat) : Int) : Int) < ((((List.length (X7.l x)) + 1) : Nat) : Int))) ∧
 (∃ a15 : O7, (((State.objs (State.new (State.set σ'9 (X7.io x) AObj.dead) (AObj.cells ((List.take ((List.length (X7.l x)) * 4) (flat (tcellL (O7.l a13)))) ++ [(AV.int IntKind.i64 (T.k (Came.t x12))), (AV.int IntKind.i64 (T.n (Came.t x12))), (AV.str (T.s (Came.t x12))), (AV.slice 4 (tcellL (T.l (Came.t x12))) Cap.any)]) 37 4 true)) (State.next σ'9)) = (AObj.cells (flat (tcellL (O7.l a15))) 37 4 (O7.g a15))) ∧
 ((((((0 + (Int.toNat (((BS.deal (X7.s x)) : Nat) : Int))) * 4) + 4) : Nat) ≤ (List.length (flat (tcellL (O7.l a15))))) ∧
 (∃ x16 : T, (((AV.agg (List.take 4 (List.drop ((0 + (Int.toNat (((BS.deal (X7.s x)) : Nat) : Int))) * 4) (flat (tcellL (O7.l a15)))))) = (AV.agg [(AV.int IntKind.i64 (T.k x16)), (AV.int IntKind.i64 (T.n x16)), (AV.str (T.s x16)), (AV.slice 4 (tcellL (T.l x16)) Cap.any)])) ∧
 (∃ a17 : T, (∃ b18 : T, (([(AV.agg [(AV.int IntKind.i64 (T.k x11)), (AV.int IntKind.i64 (T.n x11)), (AV.str (T.s x11)), (AV.slice 4 (tcellL (T.l x11)) Cap.any)]), (AV.agg [(AV.int IntKind.i64 (T.k x16)), (AV.int IntKind.i64 (T.n x16)), (AV.str (T.s x16)), (AV.slice 4 (tcellL (T.l x16)) Cap.any)])] = [(AV.agg [(AV.int IntKind.i64 (T.k a17)), (AV.int IntKind.i64 (T.n a17)), (AV.str (T.s a17)), (AV.slice 4 (tcellL (T.l a17)) Cap.any)]), (AV.agg [(AV.int IntKind.i64 (T.k b18)), (AV.int IntKind.i64 (T.n b18)), (AV.str (T.s b18)), (AV.slice 4 (tcellL (T.l b18)) Cap.any)])]) ∧
 (((T.small a17) ∧
 (((SizeOf.sizeOf a17) : Nat) < (N))) ∧
 (bcase (!(same a17 b18))
 False
 (∃ x19 : X7, ((X7.Mid x19 n) ∧
 ((((TV.v (AV.int IntKind.i64 (n))) = (TV.v (AV.int IntKind.i64 (n)))) ∧
 (((TV.v (AV.slice 5 (cameL l) Cap.any)) = (TV.v (AV.slice 5 (cameL l) Cap.any))) ∧
 (((TV.v (AV.ptr 0 0)) = (TV.v (AV.ptr 0 0))) ∧
 (((TV.v (AV.rslice (State.next σ'9) 0 ((List.length (X7.l x)) + 1))) = (TV.v (AV.rslice (X7.io x19) 0 (List.length (X7.l x19))))) ∧
 (((TV.v (AV.int IntKind.i64 (((BS.asked (X7.s x)) : Nat) : Int))) = (TV.v (AV.int IntKind.i64 (((BS.asked (X7.s x19)) : Nat) : Int)))) ∧
 (((TV.v (AV.int IntKind.i64 (IntKind.wrap IntKind.i64 ((((BS.deal (X7.s x)) : Nat) : Int) + 1)))) = (TV.v (AV.int IntKind.i64 (((BS.deal (X7.s x19)) : Nat) : Int)))) ∧
 (((TV.v (AV.int IntKind.i64 (((X7.i x) : Nat) : Int))) = (TV.v (AV.int IntKind.i64 (((X7.i x19) : Nat) : Int)))) ∧
 (State.Le (x19.2) (State.untok (State.new (State.set σ'9 (X7.io x) AObj.dead) (AObj.cells ((List.take ((List.length (X7.l x)) * 4) (flat (tcellL (O7.l a13)))) ++ [(AV.int IntKind.i64 (T.k (Came.t x12))), (AV.int IntKind.i64 (T.n (Came.t x12))), (AV.str (T.s (Came.t x12))), (AV.slice 4 (tcellL (T.l (Came.t x12))) Cap.any)]) 37 4 true))))))))))) ∧
 (∀ y20 : Y7, (((BufAt (y20.2) 0 (Y7.r y20) (X7.s x19)) ∧
 (Keeps (x19.2) (y20.2) 0 (X7.r x19) (Y7.r y20))) → (∃ x'21 : X7, (((LS.I (ls7 n l) x'21) ∧
 (((LS.μ (ls7 n l) x'21) : Nat) < (LS.μ (ls7 n l) x))) ∧
 (((TV.v (AV.int IntKind.i64 (n))) = (TV.v (AV.int IntKind.i64 (n)))) ∧
 (((TV.v (AV.slice 5 (cameL l) Cap.any)) = (TV.v (AV.slice 5 (cameL l) Cap.any))) ∧
 (((TV.v (AV.ptr 0 0)) = (TV.v (AV.ptr 0 0))) ∧
 (((TV.v (AV.rslice (X7.io x19) 0 (List.length (X7.l x19)))) = (TV.v (AV.rslice (X7.io x'21) 0 (List.length (X7.l x'21))))) ∧
 (((TV.v (AV.int IntKind.i64 (((BS.asked (X7.s x19)) : Nat) : Int))) = (TV.v (AV.int IntKind.i64 (((BS.asked (X7.s x'21)) : Nat) : Int)))) ∧
 (((TV.v (AV.int IntKind.i64 (((BS.deal (X7.s x19)) : Nat) : Int))) = (TV.v (AV.int IntKind.i64 (((BS.deal (X7.s x'21)) : Nat) : Int)))) ∧
 (((TV.v (AV.int IntKind.i64 (IntKind.wrap IntKind.i64 ((((X7.i x19) : Nat) : Int) + 1)))) = (TV.v (AV.int IntKind.i64 (((X7.i x'21) : Nat) : Int)))) ∧
 (State.Le ((ls7 n l).3 x'21) (y20.2))))))))))))))))))))))))))))))))))))))))))))))))))))))))
 (∃ x3 : X7, ((X7.Mid x3 n) ∧
 ((((TV.v (AV.int IntKind.i64 (n))) = (TV.v (AV.int IntKind.i64 (n)))) ∧
 (((TV.v (AV.slice 5 (cameL l) Cap.any)) = (TV.v (AV.slice 5 (cameL l) Cap.any))) ∧
 (((TV.v (AV.ptr 0 0)) = (TV.v (AV.ptr 0 0))) ∧
 (((TV.v (AV.rslice (X7.io x) 0 (List.length (X7.l x)))) = (TV.v (AV.rslice (X7.io x3) 0 (List.length (X7.l x3))))) ∧
 (((TV.v (AV.int IntKind.i64 (((BS.asked (X7.s x)) : Nat) : Int))) = (TV.v (AV.int IntKind.i64 (((BS.asked (X7.s x3)) : Nat) : Int)))) ∧
 (((TV.v (AV.int IntKind.i64 (((BS.deal (X7.s x)) : Nat) : Int))) = (TV.v (AV.int IntKind.i64 (((BS.deal (X7.s x3)) : Nat) : Int)))) ∧
 (((TV.v (AV.int IntKind.i64 (((X7.i x) : Nat) : Int))) = (TV.v (AV.int IntKind.i64 (((X7.i x3) : Nat) : Int)))) ∧
 (State.Le (x3.2) (State.untok ((ls7 n l).3 x)))))))))) ∧
 (∀ y4 : Y7, (((BufAt (y4.2) 0 (Y7.r y4) (X7.s x3)) ∧
 (Keeps (x3.2) (y4.2) 0 (X7.r x3) (Y7.r y4))) → (∃ x'5 : X7, (((LS.I (ls7 n l) x'5) ∧
 (((LS.μ (ls7 n l) x'5) : Nat) < (LS.μ (ls7 n l) x))) ∧
 (((TV.v (AV.int IntKind.i64 (n))) = (TV.v (AV.int IntKind.i64 (n)))) ∧
 (((TV.v (AV.slice 5 (cameL l) Cap.any)) = (TV.v (AV.slice 5 (cameL l) Cap.any))) ∧
 (((TV.v (AV.ptr 0 0)) = (TV.v (AV.ptr 0 0))) ∧
 (((TV.v (AV.rslice (X7.io x3) 0 (List.length (X7.l x3)))) = (TV.v (AV.rslice (X7.io x'5) 0 (List.length (X7.l x'5))))) ∧
 (((TV.v (AV.int IntKind.i64 (((BS.asked (X7.s x3)) : Nat) : Int))) = (TV.v (AV.int IntKind.i64 (((BS.asked (X7.s x'5)) : Nat) : Int)))) ∧
 (((TV.v (AV.int IntKind.i64 (((BS.deal (X7.s x3)) : Nat) : Int))) = (TV.v (AV.int IntKind.i64 (((BS.deal (X7.s x'5)) : Nat) : Int)))) ∧
 (((TV.v (AV.int IntKind.i64 (IntKind.wrap IntKind.i64 ((((X7.i x3) : Nat) : Int) + 1)))) = (TV.v (AV.int IntKind.i64 (((X7.i x'5) : Nat) : Int)))) ∧
 (State.Le ((ls7 n l).3 x'5) (y4.2)))))))))))))))))))))))))))
 True)
 True)) := by kernel_rfl
def L7 (n : Int) (l : List Came) : LHand := fun _ Q a σ => ((0 : Int) ≤ n ∧ n ≤ (1000 : Int)) ∧ ∃ x : X7, x.Inv n ∧ atF a ((ls7 n l).F x) [] (x.σ.Le σ) ∧ ∀ σ2 : State, Q (.exit 0) (frm [] []) σ2
theorem vc7 (B : Nat) (w0 : World) (G : Nat → AV) (N : Nat) (n : Int) (l : List Came) (Q : AV → State → Prop) : (bodyC (EV B w0 G) (H7 (EV B w0 G) N) (L7 n l) A7 noHint 7 [.int .i64 n, .slice 5 (cameL l) .any] noObj Q) =
 (((([] : List AV) = []) ∧
 (bcase (decide (((n) : Int) < 0))
 (Q (AV.bool true) (State.untok (noObj)))
 (bcase (decide (((n) : Int) > 1000))
 (Q (AV.bool true) (State.untok (noObj)))
 (bcase (decide (((n) : Int) < 0))
 (Q (AV.bool false) (State.untok (noObj)))
 (bcase (decide (((n) : Int) > 1000))
 (Q (AV.bool false) (State.untok (noObj)))
 ((((0 : Int) ≤ (n)) ∧
 (((n) : Int) ≤ 1000)) ∧
 (∃ x0 : X7, ((X7.Inv x0 n) ∧
 ((((TV.v (AV.int IntKind.i64 (n))) = (TV.v (AV.int IntKind.i64 (n)))) ∧
 (((TV.v (AV.slice 5 (cameL l) Cap.any)) = (TV.v (AV.slice 5 (cameL l) Cap.any))) ∧
 (((TV.v (AV.ptr 0 0)) = (TV.v (AV.ptr 0 0))) ∧
 (((TV.v (AV.rslice 1 0 0)) = (TV.v (AV.rslice (X7.io x0) 0 (List.length (X7.l x0))))) ∧
 (((TV.v (AV.int IntKind.i64 0)) = (TV.v (AV.int IntKind.i64 (((BS.asked (X7.s x0)) : Nat) : Int)))) ∧
 (((TV.v (AV.int IntKind.i64 0)) = (TV.v (AV.int IntKind.i64 (((BS.deal (X7.s x0)) : Nat) : Int)))) ∧
 (((TV.v (AV.int IntKind.i64 0)) = (TV.v (AV.int IntKind.i64 (((X7.i x0) : Nat) : Int)))) ∧
 (State.Le (x0.2) (State.new (State.new (State.untok (noObj)) (AObj.cells [(AV.int IntKind.i64 (n)), (AV.int IntKind.i64 0), (AV.int IntKind.i64 0), (AV.int IntKind.i64 0), AV.nilslice, (AV.int IntKind.i64 0)] 129 6 false)) (AObj.cells [] 37 4 false)))))))))) ∧
 (∀ σ21 : State, (Q (AV.bool true) σ21)))))))))))) := by kernel_rfl
end Go.V
/- The law StreamFifo: its walk. -/
set_option maxRecDepth 1000000
set_option linter.unusedVariables false
set_option linter.unusedSimpArgs false
set_option linter.unusedSectionVars false
namespace Go.V
open Go Go.Proofs

theorem flat_tc : ∀ {l : List T} {i : Nat} (h : i < l.length), ((flat (tcellL l)).drop (i * 4)).take 4 = tc l[i]
  | x :: l, 0, _ => by
    rw [tcellL, flat_cons, tcell_eq]; rfl
  | x :: l, i + 1, h => by
    have := flat_tc (l := l) (i := i) (by simpa using h)
    rw [tcellL, flat_cons, tcell_eq]
    have hi : i < l.length := by simpa using h
    show List.take 4 (List.drop ((i + 1) * 4) (tc x ++ flat (tcellL l))) = tc l[i]
    rw [show (i + 1) * 4 = (tc x).length + i * 4 by show (i + 1) * 4 = 4 + i * 4; omega, ← List.drop_drop, List.drop_left' rfl]
    exact this
theorem flat_tcl : ∀ (l : List T), (flat (tcellL l)).length = l.length * 4
  | [] => rfl
  | x :: l => by
    rw [tcellL, flat_cons, List.length_append, flat_tcl l, tcell_eq]
    show 4 + l.length * 4 = _
    simp; omega
theorem flat_push (l : List T) (t : T) : List.take (l.length * 4) (flat (tcellL l)) ++ tc t = flat (tcellL (l ++ [t])) := by
  rw [← flat_tcl l, List.take_length]
  have : tcellL (l ++ [t]) = tcellL l ++ [tcell t] := by simp [tcellL_eq]
  rw [this, flat_append, tcell_eq]
  simp [flat, AV.cells]

theorem fifo_ask {s : BS} {l : List T} (hw : s.wf) (hf : s.deal = min s.asked s.came) (ha : s.asked < 20000) (hl : l.length = s.came) (hp : s.pend = l.drop s.deal) :
    (s.askE = 0 ∧ s.askN = s.asked) ∧ (s.ask.2.asked = s.asked + 1 ∧ s.ask.2.came = s.came ∧ s.ask.2.room = s.room) ∧ s.ask.2.deal = min s.ask.2.asked s.ask.2.came ∧ s.ask.2.pend = l.drop s.ask.2.deal ∧
      (s.askL = [] → s.ask.2.deal = s.deal) ∧ ∀ k x, s.askL = [(k, x)] → k = s.deal ∧ s.ask.2.deal = s.deal + 1 ∧ ∃ h : s.deal < l.length, x = l[s.deal] := by
  have hpl := hw.pend
  have ha' : ¬ 20000 ≤ s.asked := by omega
  unfold BS.askE BS.askN BS.askL BS.ask BS.dealL BS.dealt
  simp only [if_neg ha']
  cases hc : s.pend with
  | nil =>
    rw [hc] at hp hpl
    simp only [List.length_nil] at hpl
    dsimp only
    refine ⟨⟨by simp, by simp⟩, ⟨by simp, by simp, by simp⟩, by omega, hp, fun _ => rfl, fun k x h => ?_⟩
    cases h
  | cons x p =>
    rw [hc] at hp hpl
    simp only [List.length_cons] at hpl
    have hd : s.deal < s.asked + 1 := by omega
    have hdl : s.deal < l.length := by omega
    rw [List.drop_eq_getElem_cons hdl] at hp
    have h1 := (List.cons.inj hp).1
    have h2 := (List.cons.inj hp).2
    simp only [if_pos hd]
    refine ⟨⟨by simp, by simp⟩, ⟨by simp, by simp, by simp⟩, by omega, h2, fun h => ?_, fun k y h => ?_⟩
    · cases h
    · simp only [List.cons.injEq, Prod.mk.injEq, and_true] at h
      exact ⟨h.1.symm, by simp, hdl, by rw [← h.2, h1]⟩

theorem fifo_put {s : BS} {l : List T} {t : T} (hw : s.wf) (hf : s.deal = min s.asked s.came) (hc0 : s.came < 20000) (ht : chkT t = 0) (hl : l.length = s.came) (hp : s.pend = l.drop s.deal) :
    (s.putE t = 0 ∧ s.putN t = s.came) ∧ ((s.put t).2.asked = s.asked ∧ (s.put t).2.came = s.came + 1 ∧ (s.put t).2.room = s.room) ∧ (s.put t).2.deal = min (s.put t).2.asked (s.put t).2.came ∧ (s.put t).2.pend = (l ++ [t]).drop (s.put t).2.deal ∧
      (s.putL t = [] → (s.put t).2.deal = s.deal) ∧ ∀ k x, s.putL t = [(k, x)] → k = s.deal ∧ (s.put t).2.deal = s.deal + 1 ∧ ∃ h : s.deal < (l ++ [t]).length, x = (l ++ [t])[s.deal] := by
  have hpl := hw.pend
  have ht' : ¬ chkT t ≠ 0 := by simp [ht]
  have hc0' : ¬ 20000 ≤ s.came := by omega
  have hdl : s.deal ≤ l.length := by omega
  unfold BS.putE BS.putN BS.putL BS.put BS.dealL BS.dealt
  simp only [if_neg ht', if_neg hc0']
  have hpp : s.pend ++ [t] = (l ++ [t]).drop s.deal := by rw [hp, List.drop_append_of_le_length hdl]
  have hdl' : s.deal < (l ++ [t]).length := by simp; omega
  rw [hpp, List.drop_eq_getElem_cons hdl']
  by_cases hd : s.deal < s.asked
  · simp only [if_pos hd]
    refine ⟨⟨by simp, by simp⟩, ⟨by simp, by simp, by simp⟩, by omega, by simp, fun h => ?_, fun k y h => ?_⟩
    · cases h
    · simp only [List.cons.injEq, Prod.mk.injEq, and_true] at h
      exact ⟨h.1.symm, by simp, hdl', h.2.symm⟩
  · simp only [if_neg hd]
    refine ⟨⟨by simp, by simp⟩, ⟨by simp, by simp, by simp⟩, by omega, (List.drop_eq_getElem_cons hdl').symm, fun _ => by simp, fun k y h => ?_⟩
    cases h

section
variable {B : Nat} {w0 : World} {G : Nat → AV}

theorem state_noId (s : BS) : NoId s.stateV := .tuple (by
  intro x hx
  simp only [List.mem_cons, List.not_mem_nil, or_false] at hx
  rcases hx with rfl | rfl | rfl <;> exact .int _ _)
theorem state_a {s : BS} (hs : s.wf) (hr : 0 ≤ s.room ∧ s.room ≤ 1000) (hp : s.pend = []) : ACalls (EV B w0 G) 30 [.ptr 0 0] (aloneN s) (fun v σ' => ∃ s' r', (v = s.stateV ∧ s' = s) ∧ NoId v ∧ BufAt σ' 0 r' s') := by
  have h1 := hs.came
  have h2 := hs.asked
  have h3 := hs.deal
  have h4 := hs.pend
  refine bodyC_ok (EV_mixed B w0 G) (hnd_ok (EV_mixed B w0 G) contracts_nil) (fun l hl _ Q a σ k => k.elim) ((vc30n B w0 G s _).mpr ?_)
  have w1 : IntKind.wrap .i64 ((s.came : Int) - (s.deal : Int)) = (s.came : Int) - s.deal := wr_small (by omega) (by omega)
  have w2 : IntKind.wrap .i64 ((s.asked : Int) - (s.deal : Int)) = (s.asked : Int) - s.deal := wr_small (by omega) (by omega)
  have w3 : IntKind.wrap .i64 ((s.came : Int) - (s.deal : Int) - s.lie) = (s.came : Int) - s.deal - s.lie := by
    unfold BS.lie; split <;> exact wr_small (by omega) (by omega)
  have w4 : (if Bool.false = Bool.true then if s.room > (s.came : Int) - (s.deal : Int) then s.room else (s.came : Int) - (s.deal : Int) else if s.room < (s.came : Int) - (s.deal : Int) then s.room else (s.came : Int) - (s.deal : Int)) = s.lie := by
    rw [if_neg (by simp)]; rfl
  rw [w1, w2, w4, w3]
  exact ⟨s, none, ⟨rfl, rfl⟩, state_noId s, nil_at (show 0 < 1 by decide) rfl hp⟩
theorem state_b {s : BS} (hs : s.wf) (hr : 0 ≤ s.room ∧ s.room ≤ 1000) {pre : List AV} {fr : Nat} (hpl : pre.length = fr * 4) (hlen : fr + s.pend.length ≤ s.came) (hn : ∀ x ∈ pre, NoId x) (h1 : pre.all AV.one = true) :
    ACalls (EV B w0 G) 30 [.ptr 0 0] (aloneR s pre fr) (fun v σ' => ∃ s' r', (v = s.stateV ∧ s' = s) ∧ NoId v ∧ BufAt σ' 0 r' s') := by
  have h1' := hs.came
  have h2 := hs.asked
  have h3 := hs.deal
  have h4 := hs.pend
  refine bodyC_ok (EV_mixed B w0 G) (hnd_ok (EV_mixed B w0 G) contracts_nil) (fun l hl _ Q a σ k => k.elim) ((vc30r B w0 G s pre fr _).mpr ?_)
  have w1 : IntKind.wrap .i64 ((s.came : Int) - (s.deal : Int)) = (s.came : Int) - s.deal := wr_small (by omega) (by omega)
  have w2 : IntKind.wrap .i64 ((s.asked : Int) - (s.deal : Int)) = (s.asked : Int) - s.deal := wr_small (by omega) (by omega)
  have w3 : IntKind.wrap .i64 ((s.came : Int) - (s.deal : Int) - s.lie) = (s.came : Int) - s.deal - s.lie := by
    unfold BS.lie; split <;> exact wr_small (by omega) (by omega)
  have w4 : (if Bool.false = Bool.true then if s.room > (s.came : Int) - (s.deal : Int) then s.room else (s.came : Int) - (s.deal : Int) else if s.room < (s.came : Int) - (s.deal : Int) then s.room else (s.came : Int) - (s.deal : Int)) = s.lie := by
    rw [if_neg (by simp)]; rfl
  rw [w1, w2, w4, w3]
  exact ⟨s, some 1, ⟨rfl, rfl⟩, state_noId s, same_at (show 1 < 2 by decide) rfl rfl hpl hlen hn h1⟩

variable (hG : ∀ i, NoId (G i))
include hG
theorem c30_ok : ContractOk (EV B w0 G) 30 C30 := by
  rintro args σ Q ⟨b, r, s, rfl, ⟨hb, hs, hr⟩, hQ⟩
  refine buf_frame (P := fun v s' => v = s.stateV ∧ s' = s) hG (by simp) hb (fun hp => state_a hs hr hp) (fun pre fr h1 h2 h3 h4 => state_b hs hr h1 h2 h3 h4) fun v s' r' σ' hP h1 h2 => ?_
  obtain ⟨rfl, rfl⟩ := hP
  exact hQ r' σ' ⟨h1, h2⟩
theorem c22a_ok : ContractOk (EV B w0 G) 22 C22a := by
  rintro args σ Q ⟨b, r, s, rfl, hb, hQ⟩
  refine c22_ok hG _ _ _ ⟨b, r, s, rfl, hb, fun r' σ' h => ?_⟩
  have h1 := hQ r' σ' h
  have hlen := askL_len s
  cases hc : s.askL with
  | nil => exact h1.1 hc
  | cons x l =>
    rw [hc] at hlen
    have : l = [] := List.length_eq_zero_iff.1 (by simp only [List.length_cons] at hlen; omega)
    subst this
    exact h1.2 x.1 x.2 hc
theorem c24a_ok : ContractOk (EV B w0 G) 24 C24a := by
  rintro args σ Q ⟨b, r, s, t, rfl, hb, hQ⟩
  refine c24_ok hG _ _ _ ⟨b, r, s, t, rfl, hb, fun r' σ' h => ?_⟩
  have h1 := hQ r' σ' h
  have hlen := putL_len s t
  cases hc : s.putL t with
  | nil => exact h1.1 hc
  | cons x l =>
    rw [hc] at hlen
    have : l = [] := List.length_eq_zero_iff.1 (by simp only [List.length_cons] at hlen; omega)
    subst this
    exact h1.2 x.1 x.2 hc
end

section
variable {B : Nat} {w0 : World}
theorem H7_ok (N : Nat) : HOk1 (EV B w0 G1) (H7 (EV B w0 G1) N) := hnd_ok (EV_mixed B w0 G1) (contracts_cons c16_ok (contracts_cons (c22a_ok G1_noId) (contracts_cons (c24a_ok G1_noId) (contracts_cons (c30_ok G1_noId) (contracts_cons (c32_ok G1_noId) (contracts_cons (c33_ok G1_noId N) contracts_nil))))))

theorem tail7 {n : Int} {l : List Came} {N : Nat} (Q : Post) (a : AAct) (σ : State) (h : T7 n l (subPart [33] (fnPart Tryz.prog [33] 7 0) 1) Q a σ) :
    AWp (EV B w0 G1) none (fnTmps Tryz.prog 7) (subPart [33] (fnPart Tryz.prog [33] 7 0) 1) Q a σ := by
  obtain ⟨x, hx, h1, h2⟩ := h
  refine awp_cut (cs7 n l x) (wpX_ok (H7_ok N) (EV_mixed B w0 G1) (L := fun _ _ _ _ => False) _ _ _ _ (fun l hl _ Q a σ k => k.elim) (by kernel_rfl) ((vc7t B w0 G1 N n l x).mpr ?_)) h1 h2
  have e1 := hx.wf.came
  have e2 := hx.wf.asked
  have e3 := hx.wf.deal
  have e4 := hx.wf.pend
  have e5 := hx.full
  have e6 := hx.came
  have e7 := hx.room
  have e8 := hx.rn
  refine ⟨0, x.r, x.s, rfl, ⟨hx.a, hx.wf, by omega, by omega⟩, fun r' σ' ⟨a1, k1⟩ => ?_⟩
  have w2 : IntKind.wrap .i64 ((x.s.asked : Int) - (x.s.deal : Int)) = (x.s.asked : Int) - x.s.deal := wr_small (by omega) (by omega)
  have w3 : IntKind.wrap .i64 ((x.l.length : Int) - (x.s.deal : Int)) = (x.l.length : Int) - x.s.deal := wr_small (by omega) (by omega)
  have w4 : IntKind.wrap .i64 (x.s.lie + ((x.s.came : Int) - (x.s.deal : Int) - x.s.lie)) = (x.s.came : Int) - x.s.deal := by
    rw [show x.s.lie + ((x.s.came : Int) - (x.s.deal : Int) - x.s.lie) = (x.s.came : Int) - x.s.deal by omega]
    exact wr_small (by omega) (by omega)
  have w5 : (if Bool.false = Bool.true then if (x.l.length : Int) > (x.s.asked : Int) then (x.l.length : Int) else (x.s.asked : Int) else if (x.l.length : Int) < (x.s.asked : Int) then (x.l.length : Int) else (x.s.asked : Int)) = (x.s.deal : Int) := by
    rw [if_neg (by simp)]
    split <;> omega
  have hlie : x.s.lie = if x.s.room < (x.s.came : Int) - (x.s.deal : Int) then x.s.room else (x.s.came : Int) - (x.s.deal : Int) := rfl
  rw [w2, w3, w4, w5]
  have fin : ∃ y5 : Y7, (BufAt y5.σ 0 y5.r x.s ∧ Keeps x.σ y5.σ 0 x.r y5.r) ∧ y5.σ = σ' := ⟨⟨r', σ'⟩, ⟨a1, k1⟩, rfl⟩
  refine bcase_of (fun h => ?_) (fun _ => bcase_of (fun h => ?_) (fun _ => bcase_of (fun h => ?_) (fun _ => bcase_of (fun h => ?_) (fun _ => bcase_of (fun h => ?_) (fun _ => bcase_of (fun h => ?_) (fun _ => ?_))))))
  · simp at h
  · have h := of_decide_eq_true h
    rw [hlie] at h; split at h <;> omega
  · have h := of_decide_eq_true h
    rw [hlie] at h; split at h <;> omega
  · have h := of_decide_eq_true h
    rw [hlie] at h; split at h <;> omega
  · simp at h
  · have : ((x.s.came : Int) - x.s.deal) ≠ ((x.l.length : Int) - x.s.deal) := by simpa using h
    omega
  refine bcase_of (fun h => bcase_of (fun h' => ?_) (fun h' => bcase_of (fun h3 => bcase_of (fun h4 => ?_) (fun _ => ?_)) (fun _ => ?_))) (fun h => bcase_of (fun h3 => bcase_of (fun h4 => ?_) (fun _ => ?_)) (fun _ => ?_))
  · have h := of_decide_eq_true h
    have h' := of_decide_eq_true h'
    rw [hlie] at h h'; split at h <;> omega
  · have h3 := of_decide_eq_true h3
    have h4 := of_decide_eq_true h4
    rw [hlie] at h3; split at h3 <;> omega
  · exact ⟨⟨r', σ'⟩, ⟨a1, k1⟩, rfl, rfl, rfl, rfl, rfl, rfl, rfl, .refl _⟩
  · exact ⟨⟨r', σ'⟩, ⟨a1, k1⟩, rfl, rfl, rfl, rfl, rfl, rfl, rfl, .refl _⟩
  · have h3 := of_decide_eq_true h3
    have h4 := of_decide_eq_true h4
    rw [hlie] at h3; split at h3 <;> omega
  · exact ⟨⟨r', σ'⟩, ⟨a1, k1⟩, rfl, rfl, rfl, rfl, rfl, rfl, rfl, .refl _⟩
  · exact ⟨⟨r', σ'⟩, ⟨a1, k1⟩, rfl, rfl, rfl, rfl, rfl, rfl, rfl, .refl _⟩
end
end Go.V
/- The law StreamFifo: its loop. -/
set_option maxRecDepth 1000000
set_option linter.unusedVariables false
set_option linter.unusedSimpArgs false
set_option linter.unusedSectionVars false
namespace Go.V
open Go Go.Proofs

theorem buf_keep {σ σ' : State} {b : Nat} {r : Option Nat} {s : BS} (h : BufAt σ b r s) (hn : σ.next ≤ σ'.next) (ho : ∀ id, id < σ.next → (id = b ∨ r = some id) → σ'.objs id = σ.objs id) : BufAt σ' b r s := by
  obtain ⟨h1, q, fr, h2, h3⟩ := h
  refine ⟨by omega, q, fr, by rw [ho b h1 (.inl rfl)]; exact h2, ?_⟩
  cases h3 with
  | nil h => exact .nil h
  | row r0 pre fr hb hr hro hp hl hn' h1' => exact .row r0 pre fr hb (by omega) (by rw [ho r0 hr (.inr rfl)]; exact hro) hp hl hn' h1'

/-- Behind what comes: all. -/
structure X7.FM (x : X7) (n : Int) : Prop where
  mid : x.Mid n
  o : x.σ.objs x.io = .cells (flat (tcellL x.l)) 37 4 x.g
  io : x.io < x.σ.next
  io0 : x.io ≠ 0
  ior : x.r ≠ some x.io
  pend : x.s.pend = x.l.drop x.s.deal
  small : ∀ t ∈ x.l, t.small

theorem X7.FM.next {x : X7} {n : Int} (h : x.FM n) {σ' : State} {r' : Option Nat} (a : BufAt σ' 0 r' x.s) (k : Keeps x.σ σ' 0 x.r r') : X7.Inv ⟨x.i + 1, σ', r', x.s, x.l, x.io, x.g⟩ n where
  i := h.mid.i
  wf := h.mid.wf
  room := h.mid.room
  a := a
  o := (k.objs x.io h.io h.io0 (fun e => h.ior e.symm)).trans (untok_cells h.o)
  io := by have := k.next; have := h.io; show x.io < σ'.next; omega
  io0 := h.io0
  ior := fun e => by
    rcases k.row x.io e with e' | e'
    · exact h.ior e'
    · have := h.io; omega
  came := h.mid.came
  pend := h.pend
  small := h.small
  asked := h.mid.asked
  came2 := h.mid.came2
  full := h.mid.full

theorem X7.Inv.untok {x : X7} {n : Int} (h : x.Inv n) : X7.Inv ⟨x.i, x.σ.untok, x.r, x.s, x.l, x.io, x.g⟩ n :=
  { h with a := untok_at h.a, o := untok_cells h.o }
theorem X7.FM.untok {x : X7} {n : Int} (h : x.FM n) : X7.FM ⟨x.i, x.σ.untok, x.r, x.s, x.l, x.io, x.g⟩ n :=
  { h with mid := { h.mid with a := untok_at h.mid.a }, o := untok_cells h.o }

theorem X7.Inv.none {x : X7} {n : Int} (h : x.Inv n) (hn : 0 ≤ n ∧ n ≤ 1000) (hi : x.i < 150) : x.FM n where
  mid := { i := hi, wf := h.wf, room := h.room, rn := hn, a := h.a, came := h.came, asked := by have := h.asked; omega, came2 := by have := h.came2; omega, full := h.full }
  o := h.o
  io := h.io
  io0 := h.io0
  ior := h.ior
  pend := h.pend
  small := h.small

theorem X7.Inv.ask {x : X7} {n : Int} (h : x.Inv n) (hn : 0 ≤ n ∧ n ≤ 1000) (hi : x.i < 150) {σ' : State} {r' : Option Nat} (a : BufAt σ' 0 r' x.s.ask.2) (k : Keeps x.σ σ' 0 x.r r') :
    X7.FM ⟨x.i, σ', r', x.s.ask.2, x.l, x.io, x.g⟩ n := by
  have ha := h.asked
  obtain ⟨_, ⟨f1, f2, f3⟩, f4, f5, _⟩ := fifo_ask h.wf h.full (by omega) h.came h.pend
  exact
    { mid := { i := hi, wf := ask_wf h.wf, room := f3.trans h.room, rn := hn, a := a, came := h.came.trans f2.symm, asked := by show x.s.ask.2.asked ≤ x.i + 1; omega, came2 := by have := h.came2; show x.s.ask.2.came ≤ x.i + 1; omega, full := f4 }
      o := (k.objs x.io h.io h.io0 (fun e => h.ior e.symm)).trans (untok_cells h.o)
      io := by have := k.next; have := h.io; show x.io < σ'.next; omega
      io0 := h.io0
      ior := fun e => by
        rcases k.row x.io e with e' | e'
        · exact h.ior e'
        · have := h.io; omega
      pend := f5
      small := h.small }

theorem X7.Inv.put {x : X7} {n : Int} (h : x.Inv n) (hn : 0 ≤ n ∧ n ≤ 1000) (hi : x.i < 150) {t : T} (ht : chkT t = 0) {σ' : State} {r' : Option Nat} (a : BufAt σ' 0 r' (x.s.put t).2) (k : Keeps x.σ σ' 0 x.r r') :
    X7.FM ⟨x.i, (σ'.set x.io .dead).new (.cells (flat (tcellL (x.l ++ [t]))) 37 4 true), r', (x.s.put t).2, x.l ++ [t], σ'.next, true⟩ n := by
  have ha := h.came2
  obtain ⟨_, ⟨f1, f2, f3⟩, f4, f5, _⟩ := fifo_put (t := t) h.wf h.full (by omega) ht h.came h.pend
  have hr' : r' ≠ some x.io := fun e => by
    rcases k.row x.io e with e' | e'
    · exact h.ior e'
    · have := h.io; omega
  have h0 := a.1
  exact
    { mid := { i := hi, wf := put_wf h.wf t, room := f3.trans h.room, rn := hn, a := buf_keep a (Nat.le_succ _) fun id hid hor => (by
        show (if id = σ'.next then _ else if id = x.io then _ else σ'.objs id) = _
        rw [if_neg (by omega), if_neg (by
          rcases hor with e | e
          · subst e; exact fun e => h.io0 e.symm
          · intro e'; subst e'; exact hr' e)]), came := by show (x.l ++ [t]).length = _; rw [f2]; simp [h.came], asked := by have := h.asked; show (x.s.put t).2.asked ≤ x.i + 1; omega, came2 := by show (x.s.put t).2.came ≤ x.i + 1; omega, full := f4 }
      o := if_pos rfl
      io := Nat.lt_succ_self _
      io0 := by show σ'.next ≠ 0; omega
      ior := fun e => by have := row_lt a e; exact absurd this (Nat.lt_irrefl _)
      pend := f5
      small := fun y hy => by
        rcases List.mem_append.1 hy with hy | hy
        · exact h.small y hy
        · simp at hy; subst hy; exact chk_small ht }

section
variable {B : Nat} {w0 : World}

theorem same_self (t : T) : (!(same t t)) = false := by rw [same_refl_aux.1 t]; rfl

theorem loop7 {n : Int} {l : List Came} (hb : ∀ c ∈ l, c.t.bulk ≤ 1099511627776) (Q : Post) (a : AAct) (σ : State) (h : L7 n l (.loop (lbody Tryz.prog 7 0)) Q a σ) :
    AWp (EV B w0 G1) none (fnTmps Tryz.prog 7) (.loop (bodyOf (fnPart Tryz.prog [33] 7 0))) Q a σ := by
  obtain ⟨hn, x0, h0, h1, h2⟩ := h
  refine awp_loopS (ls7 n l) (x0 := x0) (fun x hI => ?_) (fun z hI e a σ hne k => ?_) h0 h1
  · have hI : x.Inv n := hI
    have hH : HOk1 (EV B w0 G1) (H7 (EV B w0 G1) (SizeOf.sizeOf (x.l ++ l.map Came.t) + 1)) := H7_ok _
    have hN : ∀ t, t ∈ x.l ++ l.map Came.t → SizeOf.sizeOf t < SizeOf.sizeOf (x.l ++ l.map Came.t) + 1 := fun t ht => by have := List.sizeOf_lt_of_mem ht; omega
    refine wpX_ok hH (EV_mixed B w0 G1) _ _ _ _ (fun p hp hc Q a σ k => ?_) (by kernel_rfl) ((vc7l B w0 G1 (SizeOf.sizeOf (x.l ++ l.map Came.t) + 1) n l x).mpr ?_)
    · rw [subParts_7] at hp
      simp only [List.mem_cons, List.not_mem_nil, or_false] at hp
      rcases hp with rfl | rfl
      · refine handL_ok (P := fun c Q a σ => AWp (EV B w0 G1) none (fnTmps Tryz.prog 7) c Q a σ) k (fun e _ => by rw [headId_7.1] at e; simp at e) fun k => ?_
        exact handL_ok (P := fun c Q a σ => AWp (EV B w0 G1) none (fnTmps Tryz.prog 7) c Q a σ) k (fun _ k => loopC_ok hH (EV_mixed B w0 G1) 7 5 _ hc _ _ _ k) (fun k => k.elim)
      · refine handL_ok (P := fun c Q a σ => AWp (EV B w0 G1) none (fnTmps Tryz.prog 7) c Q a σ) k (fun _ k => tail7 (N := 0) _ _ _ k) fun k => ?_
        exact handL_ok (P := fun c Q a σ => AWp (EV B w0 G1) none (fnTmps Tryz.prog 7) c Q a σ) k (fun e _ => by rw [headId_7.2] at e; simp at e) (fun k => k.elim)
    have hlen : (cameL l).length = l.length := List.length_map _
    have i1 := hI.asked
    have i2 := hI.came2
    have i3 := hI.came
    have i4 := hI.wf.deal
    have i5 := hI.wf.pend
    rw [hlen]
    refine bcase_of (fun hb1 => bcase_of (fun hb2 => ?_) (fun _ => trivial)) (fun _ => trivial)
    have hb1 : x.i < l.length := by simpa using hb1
    have hb2 : x.i < 150 := by have := of_decide_eq_true hb2; omega
    have hg : (AV.vptr (AV.cells (List.getD (cameL l) (Int.toNat (x.i : Int)) AV.undef))) = AV.vptr (cc l[x.i]) := by rw [Int.toNat_natCast]; exact cameL_get hb1
    have hwr : IntKind.wrap .i64 ((x.i : Int) + 1) = ((x.i + 1 : Nat) : Int) := wr_nat (by omega)
    have hwa : IntKind.wrap .i64 ((x.s.asked : Int) + 1) = ((x.s.asked + 1 : Nat) : Int) := wr_nat (by omega)
    have hwd : IntKind.wrap .i64 ((x.s.deal : Int) + 1) = ((x.s.deal + 1 : Nat) : Int) := wr_nat (by omega)
    have hmem : l[x.i] ∈ l := List.getElem_mem hb1
    rw [hwa, hwd]
    refine ⟨⟨by omega, by omega⟩, l[x.i], hg, bcase_of (fun _ => ?_) (fun _ => ?_)⟩
    · refine ⟨0, x.r, x.s, rfl, ⟨hI.a, hI.wf⟩, fun r' σ' ⟨a1, k1⟩ => ?_⟩
      obtain ⟨⟨g1, g2⟩, ⟨f1, f2, f3⟩, f4, f5, f6, f7⟩ := fifo_ask hI.wf hI.full (by omega) hI.came hI.pend
      have hF := hI.ask hn hb2 a1 k1
      rw [g1, g2]
      refine ⟨fun hl => ?_, fun k t hl => ?_⟩
      · refine bcase_of (fun h => by simp at h) (fun _ => bcase_of (fun h => by simp at h) (fun _ => ⟨⟨x.i, σ', r', x.s.ask.2, x.l, x.io, x.g⟩, hF.mid, ⟨rfl, rfl, rfl, rfl, by rw [← f1], by rw [f6 hl], rfl, .refl _⟩, fun y hy => ?_⟩))
        exact ⟨_, ⟨hF.next hy.1 hy.2, show 150 - (x.i + 1) < 150 - x.i by omega⟩, rfl, rfl, rfl, rfl, rfl, rfl, by rw [hwr], .refl _⟩
      · obtain ⟨rfl, e2, hd, rfl⟩ := f7 k t hl
        have hob : σ'.objs x.io = .cells (flat (tcellL x.l)) 37 4 x.g := hF.o
        have hmx : x.l[x.s.deal] ∈ x.l := List.getElem_mem hd
        refine bcase_of (fun h => by simp at h) (fun _ => bcase_of (fun h => by simp at h) (fun _ => bcase_of (fun h => by simp at h) (fun _ => bcase_of (fun h => by simp at h) (fun _ => bcase_of (fun h => ?_) (fun _ => ?_)))))
        · have := of_decide_eq_true h; omega
        · refine ⟨⟨x.l, x.g⟩, hob, ⟨by omega, by omega⟩, ⟨x.l, x.g⟩, hob, ?_, x.l[x.s.deal], ?_, x.l[x.s.deal], x.l[x.s.deal], rfl, ⟨hI.small _ hmx, hN _ (List.mem_append_left _ hmx)⟩, bcase_of (fun h => ?_) (fun _ => ⟨⟨x.i, σ'.untok, r', x.s.ask.2, x.l, x.io, x.g⟩, hF.untok.mid, ⟨rfl, rfl, rfl, rfl, by rw [← f1], by rw [← e2], rfl, .refl _⟩, fun y hy => ?_⟩)⟩
          · show (0 + Int.toNat (x.s.deal : Int)) * 4 + 4 ≤ (flat (tcellL x.l)).length
            rw [flat_tcl, Int.toNat_natCast]; omega
          · rw [Int.toNat_natCast, Nat.zero_add, flat_tc hd]; rfl
          · rw [same_self] at h; cases h
          · exact ⟨_, ⟨hF.untok.next hy.1 hy.2, show 150 - (x.i + 1) < 150 - x.i by omega⟩, rfl, rfl, rfl, rfl, rfl, rfl, by rw [hwr], .refl _⟩
    · refine ⟨⟨by omega, by omega⟩, l[x.i], hg, l[x.i].t, rfl, hb _ hmem, bcase_of (fun hc => ?_) (fun _ => ?_)⟩
      · have hc : chkT l[x.i].t = 0 := by simpa using hc
        refine ⟨⟨by omega, by omega⟩, l[x.i], hg, 0, x.r, x.s, l[x.i].t, rfl, ⟨untok_at hI.a, hI.wf⟩, fun r' σ' ⟨a1, k1⟩ => ?_⟩
        obtain ⟨⟨g1, g2⟩, ⟨f1, f2, f3⟩, f4, f5, f6, f7⟩ := fifo_put (t := l[x.i].t) hI.wf hI.full (by omega) hc hI.came hI.pend
        have hF := hI.untok.put hn hb2 hc a1 k1
        have hob : σ'.objs x.io = .cells (flat (tcellL x.l)) 37 4 x.g := (k1.objs x.io hI.io hI.io0 (fun e => hI.ior e.symm)).trans (untok_cells (untok_cells hI.o))
        have hpush : List.take (x.l.length * 4) (flat (tcellL x.l)) ++ [AV.int IntKind.i64 l[x.i].t.k, AV.int IntKind.i64 l[x.i].t.n, AV.str l[x.i].t.s, AV.slice 4 (tcellL l[x.i].t.l) Cap.any] = flat (tcellL (x.l ++ [l[x.i].t])) := flat_push x.l l[x.i].t
        have hfl : x.l.length * 4 ≤ (flat (tcellL x.l)).length := by rw [flat_tcl]; omega
        rw [g1, g2]
        refine ⟨fun hl => ?_, fun k t hl => ?_⟩
        · refine bcase_of (fun h => by simp at h) (fun _ => bcase_of (fun h => ?_) (fun _ => ⟨⟨by omega, by omega⟩, l[x.i], hg, ⟨x.l, x.g⟩, hob, ⟨rfl, ⟨by omega, by omega⟩, hfl⟩, ?_⟩))
          · have : (x.s.came : Int) ≠ (x.l.length : Int) := by simpa using h
            omega
          · refine ⟨_, hF.mid, ⟨rfl, rfl, rfl, ?_, by rw [f1], by rw [f6 hl], rfl, ?_⟩, fun y hy => ?_⟩
            · simp
            · rw [hpush]; exact .refl _
            · exact ⟨_, ⟨hF.next hy.1 hy.2, show 150 - (x.i + 1) < 150 - x.i by omega⟩, rfl, rfl, rfl, rfl, rfl, rfl, by rw [hwr], .refl _⟩
        · obtain ⟨rfl, e2, hd, rfl⟩ := f7 k t hl
          have hdl : x.s.deal < x.l.length + 1 := by simpa using hd
          have hmx : (x.l ++ [l[x.i].t])[x.s.deal] ∈ x.l ++ [l[x.i].t] := List.getElem_mem hd
          have hsm := hF.small _ hmx
          have hob2 : State.objs (State.new (State.set σ' x.io AObj.dead) (AObj.cells (flat (tcellL (x.l ++ [l[x.i].t]))) 37 4 true)) (State.next σ') = .cells (flat (tcellL (x.l ++ [l[x.i].t]))) 37 4 true := if_pos rfl
          have hNN : SizeOf.sizeOf (x.l ++ [l[x.i].t])[x.s.deal] < SizeOf.sizeOf (x.l ++ l.map Came.t) + 1 := by
            refine hN _ ?_
            rcases List.mem_append.1 hmx with hy | hy
            · exact List.mem_append_left _ hy
            · simp only [List.mem_singleton] at hy
              rw [hy]; exact List.mem_append_right _ (List.mem_map_of_mem hmem)
          refine bcase_of (fun h => by simp at h) (fun _ => bcase_of (fun h => ?_) (fun _ => ⟨⟨by omega, by omega⟩, l[x.i], hg, ⟨x.l, x.g⟩, hob, ⟨rfl, ⟨by omega, by omega⟩, hfl⟩, ?_⟩))
          · have : (x.s.came : Int) ≠ (x.l.length : Int) := by simpa using h
            omega
          · rw [hpush]
            refine bcase_of (fun h => by simp at h) (fun _ => bcase_of (fun h => by simp at h) (fun _ => bcase_of (fun h => ?_) (fun _ => ?_)))
            · have := of_decide_eq_true h; omega
            · refine ⟨⟨x.l ++ [l[x.i].t], true⟩, hob2, ⟨by omega, by omega⟩, ⟨x.l ++ [l[x.i].t], true⟩, hob2, ?_, (x.l ++ [l[x.i].t])[x.s.deal], ?_, (x.l ++ [l[x.i].t])[x.s.deal], (x.l ++ [l[x.i].t])[x.s.deal], rfl, ⟨hsm, hNN⟩, bcase_of (fun h => ?_) (fun _ => ?_)⟩
              · rw [flat_tcl, Int.toNat_natCast]; simp; omega
              · rw [Int.toNat_natCast, Nat.zero_add, flat_tc hd]; rfl
              · rw [same_self] at h; cases h
              · refine ⟨_, hF.untok.mid, ⟨rfl, rfl, rfl, ?_, by rw [f1], by rw [e2], rfl, .refl _⟩, fun y hy => ?_⟩
                · simp
                · exact ⟨_, ⟨hF.untok.next hy.1 hy.2, show 150 - (x.i + 1) < 150 - x.i by omega⟩, rfl, rfl, rfl, rfl, rfl, rfl, by rw [hwr], .refl _⟩
      · have hF := hI.untok.none hn hb2
        refine ⟨_, hF.mid, ⟨rfl, rfl, rfl, rfl, rfl, rfl, rfl, .refl _⟩, fun y hy => ?_⟩
        exact ⟨_, ⟨hF.next hy.1 hy.2, show 150 - (x.i + 1) < 150 - x.i by omega⟩, rfl, rfl, rfl, rfl, rfl, rfl, by rw [hwr], .refl _⟩
  · cases e with
    | exit id =>
      cases id with
      | zero => exact ⟨frm [] [], σ, ⟨fun t => .inl rfl⟩, .refl _, h2 σ⟩
      | succ id => exact k.elim
    | normal => exact absurd rfl hne
    | _ => exact k.elim

/-- StreamFifo returns true. -/
theorem fifo_ok (n : Int) (l : List Came) (hb : ∀ c ∈ l, c.t.bulk ≤ 1099511627776) : ACalls (EV B w0 G1) 7 [.int .i64 n, .slice 5 (cameL l) .any] noObj (fun v _ => v = .bool true) := by
  refine bodyC_ok (EV_mixed B w0 G1) (H7_ok 0) (fun lp hl _ Q a σ k => ?_) ((vc7 B w0 G1 0 n l _).mpr ⟨rfl, bcase_of (fun _ => rfl) (fun h1 => bcase_of (fun _ => rfl) (fun h2 => ?_))⟩)
  · have e : fnLoops Tryz.prog 7 = [.loop (bodyOf (fnPart Tryz.prog [33] 7 0))] := by kernel_rfl
    change lp ∈ fnLoops Tryz.prog 7 at hl
    rw [e] at hl
    simp only [List.mem_cons, List.not_mem_nil, or_false] at hl
    subst hl
    exact loop7 hb Q a σ k
  · refine bcase_of (fun h => by rw [h1] at h; cases h) (fun _ => bcase_of (fun h => by rw [h2] at h; cases h) (fun _ => ?_))
    have h1 := of_decide_eq_false h1
    have h2 := of_decide_eq_false h2
    have wf0 : BS.wf ⟨n, 0, 0, 0, []⟩ := ⟨by show 0 ≤ 20000; omega, by show 0 ≤ 20000; omega, Nat.le_refl _, rfl, by simp⟩
    exact ⟨⟨by omega, by omega⟩, ⟨0, _, none, ⟨n, 0, 0, 0, []⟩, [], 1, false⟩, ⟨Nat.zero_le _, wf0, rfl, ⟨show 0 < 2 by decide, _, 0, rfl, .nil rfl⟩, rfl, show 1 < 2 by decide, by simp, by simp, rfl, rfl, by simp, Nat.le_refl _, Nat.le_refl _, rfl⟩, ⟨rfl, rfl, rfl, rfl, rfl, rfl, rfl, .refl _⟩, fun _ => rfl⟩
end
end Go.V
