import Derived.Test.YtgnjidopnplbbaaGreatDoorR26
/- Conditions: the reference's mergers: isOpen, copied. -/
set_option maxRecDepth 1000000
set_option linter.unusedVariables false
namespace Go.V
open Go Go.Proofs

def rcells (x:RI):List AV:=[.slice 4 (tcellL x.q) .any,.bool x.op,.bool x.fr,.int .i64 x.bh]
def rL (l:List RI):List AV:=l.map fun x => .agg (rcells x)
def hRI:Hint:=Hint.as (fun x:RI => .vptr (rcells x))
def N93:FnHint:=hAt [(1,13,hRI)]
theorem vc93 (B:Nat) (w0:World) (G:Nat -> AV) (σ:State) (m:RM) (i:Int) (Q:AV -> State -> Prop):(bodyC (EV B w0 G) (H0 (EV B w0 G)) (fun _ _ _ _ => False) annA N93 93 [.agg [.slice 4 (rL m.I) .any,.slice 1 (intsV m.turn) .any,.int .i64 (m.work:Int),.int .i64 (m.puts:Int)],.int .i64 i] σ Q) =
 ((bcase (decide (((i):Int) ≥ 0))
 (bcase (decide (((i):Int) < (((List.length (rL (RM.I m))):Nat):Int)))
 ((((0:Int) <= (i))/\
 (((i):Int) < (((List.length (rL (RM.I m))):Nat):Int)))/\
 (∃ x0:RI,(((AV.vptr (AV.cells (List.getD (rL (RM.I m)) (Int.toNat i) AV.undef))) = (AV.vptr [(AV.slice 4 (tcellL (RI.q x0)) Cap.any),(AV.bool (RI.op x0)),(AV.bool (RI.fr x0)),(AV.int .i64 (RI.bh x0))]))/\
 (Q (AV.bool (RI.op x0)) σ))))
 (Q (AV.bool false) σ))
 (Q (AV.bool false) σ))):=by kernel_rfl

structure YR where
 σ:State
 c:MH
 iv:AV
 tv:AV
 i:Nat
def ls94a (I:List RI) (t:List Nat) (w p:Nat) (P:YR -> Prop):LS YR where
 F y:=[(1,.l 1 0),(2,.l 2 0),(3,.l 3 0),(4,.v (.int .i64 (y.i:Int)))]
 FL y:=[(1,[.slice 4 (rL I) .any,.slice 1 (intsV t) .any,.int .i64 (w:Int),.int .i64 (p:Int)]),(2,[.nilslice,.nilslice,.int .i64 0,.int .i64 0]),(3,[y.iv,.nilslice,.int .i64 (w:Int),.int .i64 (p:Int)])]
 S y:=y.σ
 I:=P
 μ y:=(rL I).length - y.i
 Ex y e a σ:=match e with
  | .exit 0 => ¬ (y.i < (rL I).length) /\ atF a [(1,.l 1 0),(2,.l 2 0),(3,.l 3 0)] [(1,[.slice 4 (rL I) .any,.slice 1 (intsV t) .any,.int .i64 (w:Int),.int .i64 (p:Int)]),(2,[.nilslice,.nilslice,.int .i64 0,.int .i64 0]),(3,[y.iv,.nilslice,.int .i64 (w:Int),.int .i64 (p:Int)])] (y.σ.Le σ)
  | _ => False
def N94a (r:Bool):FnHint:=hAt [(5,5,hRI),(5,8,match r with | true => hEl 164 4 | false => Hint.s)]
theorem fnParts_94:fnParts Tryz.prog [] 94 = [.loop (bodyOf (fnPart Tryz.prog [] 94 0)),.loop (bodyOf (fnPart Tryz.prog [] 94 1))]:=by kernel_rfl
theorem vc94an (B:Nat) (w0:World) (G:Nat -> AV) (I:List RI) (t:List Nat) (w p:Nat) (P:YR -> Prop) (y:YR):(wpX [] (EV B w0 G) (H0 (EV B w0 G)) (fun _ _ _ _ => False) (annA 94) (N94a false) (bodyOf (fnPart Tryz.prog [] 94 0)) ((ls94a I t w p P).post y) (frm [(1,.l 1 0),(2,.l 2 0),(3,.l 3 0),(4,.v (.int .i64 (y.i:Int)))] [(1,[.slice 4 (rL I) .any,.slice 1 (intsV t) .any,.int .i64 (w:Int),.int .i64 (p:Int)]),(2,[.nilslice,.nilslice,.int .i64 0,.int .i64 0]),(3,[.nilslice,.nilslice,.int .i64 (w:Int),.int .i64 (p:Int)])]) y.σ) =
 ((bcase (decide ((((YR.i y:Nat):Int):Int) < (((List.length (rL I)):Nat):Int)))
 ((((0:Int) <= ((YR.i y:Nat):Int))/\
 ((((YR.i y:Nat):Int):Int) < (((List.length (rL I)):Nat):Int)))/\
 (∃ x0:RI,(((AV.vptr (AV.cells (List.getD (rL I) (Int.toNat (↑(YR.i y):Int)) AV.undef))) = (AV.vptr [(AV.slice 4 (tcellL (RI.q x0)) Cap.any),(AV.bool (RI.op x0)),(AV.bool (RI.fr x0)),(AV.int .i64 (RI.bh x0))]))/\
 ((((40:Nat) <= 140737488355328)/\
 ((1:Nat) <= 4611686018427387904))/\
 (∃ x'1:YR,(((P (x'1))/\
 (((LS.μ (ls94a I t w p P) x'1):Nat) < (LS.μ (ls94a I t w p P) y)))/\
 ((Rf (TV.l 1 0))/\
 ((Rf (TV.l 2 0))/\
 ((Rf (TV.l 3 0))/\
 (((TV.v (AV.int .i64 (IntKind.wrap .i64 (((YR.i y:Nat):Int) + 1)))) = (TV.v (AV.int .i64 ((YR.i x'1:Nat):Int))))/\
 ((Rf [(AV.slice 4 (rL I) Cap.any),(AV.slice 1 (intsV t) Cap.any),(AV.int .i64 ((w:Nat):Int)),(AV.int .i64 ((p:Nat):Int))])/\
 ((Rf [AV.nilslice,AV.nilslice,(AV.int .i64 0),(AV.int .i64 0)])/\
 (([(AV.rslice (State.next (y.1)) 0 1),AV.nilslice,(AV.int .i64 ((w:Nat):Int)),(AV.int .i64 ((p:Nat):Int))] = [(YR.iv x'1),AV.nilslice,(AV.int .i64 ((w:Nat):Int)),(AV.int .i64 ((p:Nat):Int))])/\
 (State.Le ((ls94a I t w p P).3 x'1) (State.new (y.1) (AObj.cells [(AV.slice 4 (tcellL (RI.q x0)) Cap.any),(AV.bool (RI.op x0)),(AV.bool (RI.fr x0)),(AV.int .i64 (RI.bh x0))] 164 4 true))))))))))))))))
 ((((YR.i y:Nat) < (List.length (rL I))) -> False)/\
 ((Rf (TV.l 1 0))/\
 ((Rf (TV.l 2 0))/\
 ((Rf (TV.l 3 0))/\
 ((Rf [(AV.slice 4 (rL I) Cap.any),(AV.slice 1 (intsV t) Cap.any),(AV.int .i64 ((w:Nat):Int)),(AV.int .i64 ((p:Nat):Int))])/\
 ((Rf [AV.nilslice,AV.nilslice,(AV.int .i64 0),(AV.int .i64 0)])/\
 (([AV.nilslice,AV.nilslice,(AV.int .i64 ((w:Nat):Int)),(AV.int .i64 ((p:Nat):Int))] = [(YR.iv y),AV.nilslice,(AV.int .i64 ((w:Nat):Int)),(AV.int .i64 ((p:Nat):Int))])/\
 (State.Le (y.1) (y.1))))))))))):=by kernel_rfl
theorem vc94ar (B:Nat) (w0:World) (G:Nat -> AV) (I:List RI) (t:List Nat) (w p id n:Nat) (P:YR -> Prop) (y:YR):(wpX [] (EV B w0 G) (H0 (EV B w0 G)) (fun _ _ _ _ => False) (annA 94) (N94a true) (bodyOf (fnPart Tryz.prog [] 94 0)) ((ls94a I t w p P).post y) (frm [(1,.l 1 0),(2,.l 2 0),(3,.l 3 0),(4,.v (.int .i64 (y.i:Int)))] [(1,[.slice 4 (rL I) .any,.slice 1 (intsV t) .any,.int .i64 (w:Int),.int .i64 (p:Int)]),(2,[.nilslice,.nilslice,.int .i64 0,.int .i64 0]),(3,[.rslice id 0 n,.nilslice,.int .i64 (w:Int),.int .i64 (p:Int)])]) y.σ) =
 ((bcase (decide ((((YR.i y:Nat):Int):Int) < (((List.length (rL I)):Nat):Int)))
 ((((0:Int) <= ((YR.i y:Nat):Int))/\
 ((((YR.i y:Nat):Int):Int) < (((List.length (rL I)):Nat):Int)))/\
 (∃ x0:RI,(((AV.vptr (AV.cells (List.getD (rL I) (Int.toNat (↑(YR.i y):Int)) AV.undef))) = (AV.vptr [(AV.slice 4 (tcellL (RI.q x0)) Cap.any),(AV.bool (RI.op x0)),(AV.bool (RI.fr x0)),(AV.int .i64 (RI.bh x0))]))/\
 (∃ a1:OE,(((State.objs (y.1) (id)) = (AObj.cells (OE.cs a1) 164 4 (OE.g a1)))/\
 ((((0:Nat) = 0)/\
 (((((((n) + 1) * 40):Nat) <= 140737488355328)/\
 ((((n) + 1):Nat) <= 4611686018427387904))/\
 ((((n) * 4):Nat) <= (List.length (OE.cs a1)))))/\
 (∃ x'2:YR,(((P (x'2))/\
 (((LS.μ (ls94a I t w p P) x'2):Nat) < (LS.μ (ls94a I t w p P) y)))/\
 ((Rf (TV.l 1 0))/\
 ((Rf (TV.l 2 0))/\
 ((Rf (TV.l 3 0))/\
 (((TV.v (AV.int .i64 (IntKind.wrap .i64 (((YR.i y:Nat):Int) + 1)))) = (TV.v (AV.int .i64 ((YR.i x'2:Nat):Int))))/\
 ((Rf [(AV.slice 4 (rL I) Cap.any),(AV.slice 1 (intsV t) Cap.any),(AV.int .i64 ((w:Nat):Int)),(AV.int .i64 ((p:Nat):Int))])/\
 ((Rf [AV.nilslice,AV.nilslice,(AV.int .i64 0),(AV.int .i64 0)])/\
 (([(AV.rslice (State.next (y.1)) 0 ((n) + 1)),AV.nilslice,(AV.int .i64 ((w:Nat):Int)),(AV.int .i64 ((p:Nat):Int))] = [(YR.iv x'2),AV.nilslice,(AV.int .i64 ((w:Nat):Int)),(AV.int .i64 ((p:Nat):Int))])/\
 (State.Le ((ls94a I t w p P).3 x'2) (State.new (State.set (y.1) (id) AObj.dead) (AObj.cells ((List.take ((n) * 4) (OE.cs a1)) ++ [(AV.slice 4 (tcellL (RI.q x0)) Cap.any),(AV.bool (RI.op x0)),(AV.bool (RI.fr x0)),(AV.int .i64 (RI.bh x0))]) 164 4 true))))))))))))))))))
 ((((YR.i y:Nat) < (List.length (rL I))) -> False)/\
 ((Rf (TV.l 1 0))/\
 ((Rf (TV.l 2 0))/\
 ((Rf (TV.l 3 0))/\
 ((Rf [(AV.slice 4 (rL I) Cap.any),(AV.slice 1 (intsV t) Cap.any),(AV.int .i64 ((w:Nat):Int)),(AV.int .i64 ((p:Nat):Int))])/\
 ((Rf [AV.nilslice,AV.nilslice,(AV.int .i64 0),(AV.int .i64 0)])/\
 (([(AV.rslice (id) 0 (n)),AV.nilslice,(AV.int .i64 ((w:Nat):Int)),(AV.int .i64 ((p:Nat):Int))] = [(YR.iv y),AV.nilslice,(AV.int .i64 ((w:Nat):Int)),(AV.int .i64 ((p:Nat):Int))])/\
 (State.Le (y.1) (y.1))))))))))):=by kernel_rfl
def ls94b (I:List RI) (t:List Nat) (w p:Nat) (P:YR -> Prop):LS YR where
 F y:=[(1,.l 1 0),(2,.l 2 0),(3,.l 3 0),(5,.v (.int .i64 (y.i:Int)))]
 FL y:=[(1,[.slice 4 (rL I) .any,.slice 1 (intsV t) .any,.int .i64 (w:Int),.int .i64 (p:Int)]),(2,[.nilslice,.nilslice,.int .i64 0,.int .i64 0]),(3,[y.iv,y.tv,.int .i64 (w:Int),.int .i64 (p:Int)])]
 S y:=y.σ
 I:=P
 μ y:=(intsV t).length - y.i
 Ex y e a σ:=match e with
  | .exit 2 => ¬ (y.i < (intsV t).length) /\ atF a [(2,.l 2 0),(3,.l 3 0)] [(2,[.nilslice,.nilslice,.int .i64 0,.int .i64 0]),(3,[y.iv,y.tv,.int .i64 (w:Int),.int .i64 (p:Int)])] (y.σ.Le σ)
  | _ => False
def N94b (r:Bool):FnHint:=hAt [(9,5,hNat),(9,8,match r with | true => hEl 3 1 | false => Hint.s)]
theorem vc94bn (B:Nat) (w0:World) (G:Nat -> AV) (I:List RI) (t:List Nat) (w p:Nat) (P:YR -> Prop) (y:YR):(wpX [] (EV B w0 G) (H0 (EV B w0 G)) (fun _ _ _ _ => False) (annA 94) (N94b false) (bodyOf (fnPart Tryz.prog [] 94 1)) ((ls94b I t w p P).post y) (frm [(1,.l 1 0),(2,.l 2 0),(3,.l 3 0),(5,.v (.int .i64 (y.i:Int)))] [(1,[.slice 4 (rL I) .any,.slice 1 (intsV t) .any,.int .i64 (w:Int),.int .i64 (p:Int)]),(2,[.nilslice,.nilslice,.int .i64 0,.int .i64 0]),(3,[y.iv,.nilslice,.int .i64 (w:Int),.int .i64 (p:Int)])]) y.σ) =
 ((bcase (decide ((((YR.i y:Nat):Int):Int) < (((List.length (intsV t)):Nat):Int)))
 ((((0:Int) <= ((YR.i y:Nat):Int))/\
 ((((YR.i y:Nat):Int):Int) < (((List.length (intsV t)):Nat):Int)))/\
 (∃ x0:Nat,(((AV.vptr (AV.cells (List.getD (intsV t) (Int.toNat (↑(YR.i y):Int)) AV.undef))) = (AV.vptr [(AV.int .i64 ((x0:Nat):Int))]))/\
 ((((8:Nat) <= 140737488355328)/\
 ((1:Nat) <= 4611686018427387904))/\
 (∃ x'1:YR,(((P (x'1))/\
 (((LS.μ (ls94b I t w p P) x'1):Nat) < (LS.μ (ls94b I t w p P) y)))/\
 ((Rf (TV.l 1 0))/\
 ((Rf (TV.l 2 0))/\
 ((Rf (TV.l 3 0))/\
 (((TV.v (AV.int .i64 (IntKind.wrap .i64 (((YR.i y:Nat):Int) + 1)))) = (TV.v (AV.int .i64 ((YR.i x'1:Nat):Int))))/\
 ((Rf [(AV.slice 4 (rL I) Cap.any),(AV.slice 1 (intsV t) Cap.any),(AV.int .i64 ((w:Nat):Int)),(AV.int .i64 ((p:Nat):Int))])/\
 ((Rf [AV.nilslice,AV.nilslice,(AV.int .i64 0),(AV.int .i64 0)])/\
 (([(YR.iv y),(AV.rslice (State.next (y.1)) 0 1),(AV.int .i64 ((w:Nat):Int)),(AV.int .i64 ((p:Nat):Int))] = [(YR.iv x'1),(YR.tv x'1),(AV.int .i64 ((w:Nat):Int)),(AV.int .i64 ((p:Nat):Int))])/\
 (State.Le ((ls94b I t w p P).3 x'1) (State.new (y.1) (AObj.cells [(AV.int .i64 ((x0:Nat):Int))] 3 1 true))))))))))))))))
 ((((YR.i y:Nat) < (List.length (intsV t))) -> False)/\
 ((Rf (TV.l 2 0))/\
 ((Rf (TV.l 3 0))/\
 ((Rf [AV.nilslice,AV.nilslice,(AV.int .i64 0),(AV.int .i64 0)])/\
 (([(YR.iv y),AV.nilslice,(AV.int .i64 ((w:Nat):Int)),(AV.int .i64 ((p:Nat):Int))] = [(YR.iv y),(YR.tv y),(AV.int .i64 ((w:Nat):Int)),(AV.int .i64 ((p:Nat):Int))])/\
 (State.Le (y.1) (y.1))))))))):=by kernel_rfl
theorem vc94br (B:Nat) (w0:World) (G:Nat -> AV) (I:List RI) (t:List Nat) (w p id n:Nat) (P:YR -> Prop) (y:YR):(wpX [] (EV B w0 G) (H0 (EV B w0 G)) (fun _ _ _ _ => False) (annA 94) (N94b true) (bodyOf (fnPart Tryz.prog [] 94 1)) ((ls94b I t w p P).post y) (frm [(1,.l 1 0),(2,.l 2 0),(3,.l 3 0),(5,.v (.int .i64 (y.i:Int)))] [(1,[.slice 4 (rL I) .any,.slice 1 (intsV t) .any,.int .i64 (w:Int),.int .i64 (p:Int)]),(2,[.nilslice,.nilslice,.int .i64 0,.int .i64 0]),(3,[y.iv,.rslice id 0 n,.int .i64 (w:Int),.int .i64 (p:Int)])]) y.σ) =
 ((bcase (decide ((((YR.i y:Nat):Int):Int) < (((List.length (intsV t)):Nat):Int)))
 ((((0:Int) <= ((YR.i y:Nat):Int))/\
 ((((YR.i y:Nat):Int):Int) < (((List.length (intsV t)):Nat):Int)))/\
 (∃ x0:Nat,(((AV.vptr (AV.cells (List.getD (intsV t) (Int.toNat (↑(YR.i y):Int)) AV.undef))) = (AV.vptr [(AV.int .i64 ((x0:Nat):Int))]))/\
 (∃ a1:OE,(((State.objs (y.1) (id)) = (AObj.cells (OE.cs a1) 3 1 (OE.g a1)))/\
 ((((0:Nat) = 0)/\
 (((((((n) + 1) * 8):Nat) <= 140737488355328)/\
 ((((n) + 1):Nat) <= 4611686018427387904))/\
 ((((n) * 1):Nat) <= (List.length (OE.cs a1)))))/\
 (∃ x'2:YR,(((P (x'2))/\
 (((LS.μ (ls94b I t w p P) x'2):Nat) < (LS.μ (ls94b I t w p P) y)))/\
 ((Rf (TV.l 1 0))/\
 ((Rf (TV.l 2 0))/\
 ((Rf (TV.l 3 0))/\
 (((TV.v (AV.int .i64 (IntKind.wrap .i64 (((YR.i y:Nat):Int) + 1)))) = (TV.v (AV.int .i64 ((YR.i x'2:Nat):Int))))/\
 ((Rf [(AV.slice 4 (rL I) Cap.any),(AV.slice 1 (intsV t) Cap.any),(AV.int .i64 ((w:Nat):Int)),(AV.int .i64 ((p:Nat):Int))])/\
 ((Rf [AV.nilslice,AV.nilslice,(AV.int .i64 0),(AV.int .i64 0)])/\
 (([(YR.iv y),(AV.rslice (State.next (y.1)) 0 ((n) + 1)),(AV.int .i64 ((w:Nat):Int)),(AV.int .i64 ((p:Nat):Int))] = [(YR.iv x'2),(YR.tv x'2),(AV.int .i64 ((w:Nat):Int)),(AV.int .i64 ((p:Nat):Int))])/\
 (State.Le ((ls94b I t w p P).3 x'2) (State.new (State.set (y.1) (id) AObj.dead) (AObj.cells ((List.take ((n) * 1) (OE.cs a1)) ++ [(AV.int .i64 ((x0:Nat):Int))]) 3 1 true))))))))))))))))))
 ((((YR.i y:Nat) < (List.length (intsV t))) -> False)/\
 ((Rf (TV.l 2 0))/\
 ((Rf (TV.l 3 0))/\
 ((Rf [AV.nilslice,AV.nilslice,(AV.int .i64 0),(AV.int .i64 0)])/\
 (([(YR.iv y),(AV.rslice (id) 0 (n)),(AV.int .i64 ((w:Nat):Int)),(AV.int .i64 ((p:Nat):Int))] = [(YR.iv y),(YR.tv y),(AV.int .i64 ((w:Nat):Int)),(AV.int .i64 ((p:Nat):Int))])/\
 (State.Le (y.1) (y.1))))))))):=by kernel_rfl
def T94a (I:List RI) (t:List Nat) (w p:Nat) (P R:YR -> Prop):LHand:=fun _ Q a σ => ∃ y:YR,P y /\ atF a ((ls94a I t w p P).F y) ((ls94a I t w p P).FL y) (y.σ.Le σ) /\
 ∀ y':YR,R y' -> Q (.exit 0) (frm [(1,.l 1 0),(2,.l 2 0),(3,.l 3 0)] [(1,[.slice 4 (rL I) .any,.slice 1 (intsV t) .any,.int .i64 (w:Int),.int .i64 (p:Int)]),(2,[.nilslice,.nilslice,.int .i64 0,.int .i64 0]),(3,[y'.iv,.nilslice,.int .i64 (w:Int),.int .i64 (p:Int)])]) y'.σ
def T94b (I:List RI) (t:List Nat) (w p:Nat) (P R:YR -> Prop):LHand:=fun _ Q a σ => ∃ y:YR,P y /\ atF a ((ls94b I t w p P).F y) ((ls94b I t w p P).FL y) (y.σ.Le σ) /\
 ∀ y':YR,R y' -> Q (.exit 2) (frm [(2,.l 2 0),(3,.l 3 0)] [(2,[.nilslice,.nilslice,.int .i64 0,.int .i64 0]),(3,[y'.iv,y'.tv,.int .i64 (w:Int),.int .i64 (p:Int)])]) y'.σ
theorem headId_94:headId (.loop (bodyOf (fnPart Tryz.prog [] 94 0))) = some 3 /\ headId (.loop (bodyOf (fnPart Tryz.prog [] 94 1))) = some 7:=⟨by kernel_rfl,by kernel_rfl⟩
theorem vc94 (B:Nat) (w0:World) (G:Nat -> AV) (I:List RI) (t:List Nat) (w p:Nat) (P1 R1 P2 R2:YR -> Prop) (σ:State) (Q:AV -> State -> Prop):(bodyX [] (EV B w0 G) (H0 (EV B w0 G)) (handL [(3,T94a I t w p P1 R1),(7,T94b I t w p P2 R2)]) annA noHint 94 [.agg [.slice 4 (rL I) .any,.slice 1 (intsV t) .any,.int .i64 (w:Int),.int .i64 (p:Int)]] σ Q) =
 ((∃ y0:YR,((P1 (y0))/\
 (((Rf (TV.l 1 0))/\
 ((Rf (TV.l 2 0))/\
 ((Rf (TV.l 3 0))/\
 (((TV.v (AV.int .i64 0)) = (TV.v (AV.int .i64 ((YR.i y0:Nat):Int))))/\
 ((Rf [(AV.slice 4 (rL I) Cap.any),(AV.slice 1 (intsV t) Cap.any),(AV.int .i64 ((w:Nat):Int)),(AV.int .i64 ((p:Nat):Int))])/\
 ((Rf [AV.nilslice,AV.nilslice,(AV.int .i64 0),(AV.int .i64 0)])/\
 (([AV.nilslice,AV.nilslice,(AV.int .i64 ((w:Nat):Int)),(AV.int .i64 ((p:Nat):Int))] = [(YR.iv y0),AV.nilslice,(AV.int .i64 ((w:Nat):Int)),(AV.int .i64 ((p:Nat):Int))])/\
 (State.Le (y0.1) σ))))))))/\
 (∀ y'1:YR,((R1 (y'1)) -> (∃ y2:YR,((P2 (y2))/\
 (((Rf (TV.l 1 0))/\
 ((Rf (TV.l 2 0))/\
 ((Rf (TV.l 3 0))/\
 (((TV.v (AV.int .i64 0)) = (TV.v (AV.int .i64 ((YR.i y2:Nat):Int))))/\
 ((Rf [(AV.slice 4 (rL I) Cap.any),(AV.slice 1 (intsV t) Cap.any),(AV.int .i64 ((w:Nat):Int)),(AV.int .i64 ((p:Nat):Int))])/\
 ((Rf [AV.nilslice,AV.nilslice,(AV.int .i64 0),(AV.int .i64 0)])/\
 (([(YR.iv y'1),AV.nilslice,(AV.int .i64 ((w:Nat):Int)),(AV.int .i64 ((p:Nat):Int))] = [(YR.iv y2),(YR.tv y2),(AV.int .i64 ((w:Nat):Int)),(AV.int .i64 ((p:Nat):Int))])/\
 (State.Le (y2.1) (y'1.1)))))))))/\
 (∀ y'3:YR,((R2 (y'3)) -> (bcase (true && (true && (((AV.one (YR.iv y'3)) && ((AV.one (YR.tv y'3)) && (true && (true && true)))) && true)))
 (Q (AV.agg [(YR.iv y'3),(YR.tv y'3),(AV.int .i64 ((w:Nat):Int)),(AV.int .i64 ((p:Nat):Int))]) (y'3.1))
 False)))))))))))):=by kernel_rfl
end Go.V
/- The reference's mergers: isOpen, copied. -/
set_option linter.unusedSimpArgs false
set_option linter.unusedSectionVars false
namespace Go.V
open Go Go.Proofs

theorem rL_len (l:List RI):(rL l).length = l.length:=List.length_map _
theorem rL_get {l:List RI} {i:Nat} (h:i < l.length):AV.vptr (AV.cells (List.getD (rL l) i .undef)) = .vptr (rcells l[i]):=by
 unfold rL; rw [List.getD,List.getElem?_map,List.getElem?_eq_getElem h]; rfl
theorem rL_append (l m:List RI):rL (l ++ m) = rL l ++ rL m:=List.map_append
theorem flat_rL_len (l:List RI):(flat (rL l)).length = l.length * 4:=by
 induction l with
 | nil => rfl
 | cons x l ih =>
  show (flat (.agg (rcells x) :: rL l)).length = _
  rw [flat_cons,List.length_append,ih]
  show 4 + l.length * 4 = _
  simp; omega
theorem flat_rL_snoc (l:List RI) (x:RI):flat (rL (l ++ [x])) = flat (rL l) ++ rcells x:=by
 rw [rL_append,flat_append]
 have:flat (rL [x]) = rcells x:=by
  show flat [.agg (rcells x)] = _
  simp [flat,AV.cells]
 rw [this]
theorem SlAt.one {c:MH} {r:MRole} {e sz:Nat} {v:AV} {cs:List AV} (h:SlAt c r e sz v cs):v.one = true:=by
 cases h <;> rfl

def C93r:Contract:=fun args σ K => ∃ (m:RM) (i:Int),args = [.agg [.slice 4 (rL m.I) .any,.slice 1 (intsV m.turn) .any,.int .i64 (m.work:Int),.int .i64 (m.puts:Int)],.int .i64 i] /\ K (.bool (m.opened i).isSome) σ
def C94r:Contract:=fun args σ K => ∃ (m:RM) (c:MH),args = [.agg [.slice 4 (rL m.I) .any,.slice 1 (intsV m.turn) .any,.int .i64 (m.work:Int),.int .i64 (m.puts:Int)]] /\ (At c σ /\ m.I.length <= 5000 /\ m.turn.length <= 5000 /\ m.I ≠ []) /\
 ∀ (id:Nat) (g:Bool) (tv:AV) (c':MH) (σ':State),(At c' σ' /\ c' .ins = some (id,.cells (flat (rL m.I)) 164 4 g) /\ SlAt c' .turn 3 1 tv (intsV m.turn) /\ Same c c' [.ins,.turn]) -> K (.agg [.rslice id 0 m.I.length,tv,.int .i64 (m.work:Int),.int .i64 (m.puts:Int)]) σ'

structure IR94a (c:MH) (I:List RI) (y:YR):Prop where
 at_:At y.c y.σ
 ins:SlAt y.c .ins 164 4 y.iv (flat (rL (I.take y.i)))
 i:y.i <= I.length
 same:Same c y.c [.ins,.turn]
structure IR94b (c:MH) (I:List RI) (t:List Nat) (y:YR):Prop where
 at_:At y.c y.σ
 ins:SlAt y.c .ins 164 4 y.iv (flat (rL I))
 turn:SlAt y.c .turn 3 1 y.tv (intsV (t.take y.i))
 i:y.i <= t.length
 same:Same c y.c [.ins,.turn]

section
variable {B:Nat} {w0:World} {G:Nat -> AV}
theorem c93_ok:ContractOk (EV B w0 G) 93 C93r:=by
 rintro args σ Q ⟨m,i,rfl,hQ⟩
 refine bodyC_ok (EV_mixed B w0 G) H0_ok (fun l hl _ Q a σ k => k.elim) ((vc93 B w0 G σ m i Q).mpr ?_)
 have hno:¬ (0 <= i /\ i < m.I.length) -> m.opened i = none:=fun h => by unfold RM.opened; rw [if_neg fun k => h ⟨k.1,k.2.1⟩]
 refine bcase_of (fun h1 => bcase_of (fun h2 => ?_) (fun h2 => ?_)) (fun h1 => ?_)
 ·have h1:i ≥ 0:=of_decide_eq_true h1
  have h2:=of_decide_eq_true h2
  obtain ⟨k,rfl⟩:∃ k:Nat,i = (k:Int):=⟨i.toNat,by omega⟩
  have hk:k < m.I.length:=by rw [rL_len] at h2; omega
  refine ⟨⟨h1,h2⟩,m.at k,?_,?_⟩
  ·rw [Int.toNat_natCast,rL_get hk]
   unfold RM.at
   simp [List.getD,List.getElem?_eq_getElem hk]
   rfl
  ·have:(m.opened (k:Int)).isSome = (m.at k).op:=by
    unfold RM.opened
    rw [Int.toNat_natCast]
    cases h:(m.at k).op with
    | true => rw [if_pos ⟨by omega,by omega,rfl⟩]; rfl
    | false => rw [if_neg (fun h => by cases h.2.2)]; rfl
   rw [this] at hQ; exact hQ
 ·have h2:=of_decide_eq_false h2
  rw [hno (fun h => by rw [rL_len] at h2; omega)] at hQ; exact hQ
 ·have h1:¬ i ≥ 0:=of_decide_eq_false h1
  rw [hno (fun h => by omega)] at hQ; exact hQ

theorem loop94a {I:List RI} {t:List Nat} {w p:Nat} {c:MH} (hI5:I.length <= 5000) {y0:YR} (h0:IR94a c I y0) (Q:Post) (a:AAct) (σ:State) (ha:atF a ((ls94a I t w p (IR94a c I)).F y0) ((ls94a I t w p (IR94a c I)).FL y0) (y0.σ.Le σ))
  (hQ:∀ y':YR,(IR94a c I y' /\ y'.i = I.length) -> Q (.exit 0) (frm [(1,.l 1 0),(2,.l 2 0),(3,.l 3 0)] [(1,[.slice 4 (rL I) .any,.slice 1 (intsV t) .any,.int .i64 (w:Int),.int .i64 (p:Int)]),(2,[.nilslice,.nilslice,.int .i64 0,.int .i64 0]),(3,[y'.iv,.nilslice,.int .i64 (w:Int),.int .i64 (p:Int)])]) y'.σ) :
  AWp (EV B w0 G) none (fnTmps Tryz.prog 94) (.loop (bodyOf (fnPart Tryz.prog [] 94 0))) Q a σ:=by
 refine awp_loopS (ls94a I t w p (IR94a c I)) (x0:=y0) (fun y hI => ?_) (fun y hI e a σ hne kk => ?_) h0 ha
 ·have hI:IR94a c I y:=hI
  show AWp _ _ _ _ _ (frm [(1,.l 1 0),(2,.l 2 0),(3,.l 3 0),(4,.v (.int .i64 (y.i:Int)))] [(1,[.slice 4 (rL I) .any,.slice 1 (intsV t) .any,.int .i64 (w:Int),.int .i64 (p:Int)]),(2,[.nilslice,.nilslice,.int .i64 0,.int .i64 0]),(3,[y.iv,.nilslice,.int .i64 (w:Int),.int .i64 (p:Int)])]) y.σ
  have hi:=hI.i
  have w1:IntKind.wrap .i64 ((y.i:Int) + 1) = ((y.i + 1:Nat):Int):=by rw [wr_small (by omega) (by omega)]; omega
  have hμ:y.i < I.length -> (rL I).length - (y.i + 1) < (rL I).length - y.i:=fun h => by rw [rL_len]; omega
  have htk:∀ h:y.i < I.length,flat (rL (I.take (y.i + 1))) = flat (rL (I.take y.i)) ++ rcells I[y.i]:=fun h => by rw [List.take_add_one,List.getElem?_eq_getElem h]; exact flat_rL_snoc _ _
  have hlt:(y.i:Int) < ((rL I).length:Int) -> y.i < I.length:=fun h => by rw [rL_len] at h; omega
  rcases hI.ins.inv with ⟨e,hnil⟩ | ⟨id,n,g,e,hs,hl⟩
  ·rw [e]
   refine wpX_ok H0_ok (EV_mixed B w0 G) (L:=fun _ _ _ _ => False) _ _ _ _ (fun p hp hc Q a σ k => k.elim) (by kernel_rfl) ((vc94an B w0 G I t w p _ y).mpr (bcase_of (fun h => ?_) (fun h => ⟨fun h2 => by have h:=of_decide_eq_false h; omega,rfl,rfl,rfl,rfl,rfl,by rw [e],.refl _⟩)))
   have h:=of_decide_eq_true h
   have hk:=hlt h
   obtain ⟨c2,g1,g2,g3⟩:∃ c2:MH,At c2 (y.σ.new (.cells (rcells I[y.i]) 164 4 true)) /\ c2 .ins = some (y.σ.next,.cells (rcells I[y.i]) 164 4 true) /\ Same y.c c2 [.ins]:=⟨_,hI.at_.new .ins _,hup_self,Same.hup (by simp)⟩
   refine ⟨⟨by omega,h⟩,I[y.i],by rw [Int.toNat_natCast]; exact rL_get hk,⟨by decide,by decide⟩,⟨y.σ.new (.cells (rcells I[y.i]) 164 4 true),c2,.rslice y.σ.next 0 1,y.tv,y.i + 1⟩,⟨⟨g1,?_,hk,hI.same.trans (g3.wide (by simp))⟩,hμ hk⟩,rfl,rfl,rfl,by rw [w1],rfl,rfl,rfl,.refl _⟩
   show SlAt c2 .ins 164 4 (.rslice y.σ.next 0 1) (flat (rL (I.take (y.i + 1))))
   rw [htk hk,hnil]
   exact .row _ 1 true _ g2 rfl
  ·rw [e]
   rw [flat_rL_len] at hl
   have hn:n = y.i:=by rw [List.length_take] at hl; omega
   have hob:=hI.at_.obj hs
   have htake:List.take (n * 4) (flat (rL (I.take y.i))) = flat (rL (I.take y.i)):=List.take_of_length_le (by rw [flat_rL_len]; omega)
   refine wpX_ok H0_ok (EV_mixed B w0 G) (L:=fun _ _ _ _ => False) _ _ _ _ (fun p hp hc Q a σ k => k.elim) (by kernel_rfl) ((vc94ar B w0 G I t w p id n _ y).mpr (bcase_of (fun h => ?_) (fun h => ⟨fun h2 => by have h:=of_decide_eq_false h; omega,rfl,rfl,rfl,rfl,rfl,by rw [e],.refl _⟩)))
   have h:=of_decide_eq_true h
   have hk:=hlt h
   obtain ⟨c2,g1,g2,g3⟩:∃ c2:MH,At c2 ((y.σ.set id .dead).new (.cells (flat (rL (I.take y.i)) ++ rcells I[y.i]) 164 4 true)) /\ c2 .ins = some (y.σ.next,.cells (flat (rL (I.take y.i)) ++ rcells I[y.i]) 164 4 true) /\ Same y.c c2 [.ins]:=⟨_,hI.at_.grow hs _,hup_self,Same.hup (r:=.ins) (l:=[.ins]) (by simp)⟩
   refine ⟨⟨by omega,h⟩,I[y.i],by rw [Int.toNat_natCast]; exact rL_get hk,⟨flat (rL (I.take y.i)),g⟩,hob,⟨rfl,⟨by omega,by omega⟩,by show n * 4 <= (flat (rL (I.take y.i))).length; rw [flat_rL_len]; omega⟩,⟨(y.σ.set id .dead).new (.cells (flat (rL (I.take y.i)) ++ rcells I[y.i]) 164 4 true),c2,.rslice y.σ.next 0 (n + 1),y.tv,y.i + 1⟩,⟨⟨g1,?_,hk,hI.same.trans (g3.wide (by simp))⟩,hμ hk⟩,rfl,rfl,rfl,by rw [w1],rfl,rfl,rfl,?_⟩
   ·show SlAt c2 .ins 164 4 (.rslice y.σ.next 0 (n + 1)) (flat (rL (I.take (y.i + 1))))
    rw [htk hk]
    refine .row _ (n + 1) true _ g2 ?_
    rw [List.length_append,flat_rL_len]
    show (List.take y.i I).length * 4 + 4 = (n + 1) * 4
    omega
   ·dsimp only
    rw [htake]
    exact .refl _
 ·cases e with
  | exit i =>
   match i,kk with
   | 0,kk =>
    have hI:IR94a c I y:=hI
    exact ⟨_,_,(atF_ok kk.2).1,(atF_ok kk.2).2,hQ y ⟨hI,by have:=hI.i; have:=kk.1; rw [rL_len] at this; omega⟩⟩
  | normal => exact absurd rfl hne
  | _ => exact kk.elim

theorem loop94b {I:List RI} {t:List Nat} {w p:Nat} {c:MH} (ht5:t.length <= 5000) {y0:YR} (h0:IR94b c I t y0) (Q:Post) (a:AAct) (σ:State) (ha:atF a ((ls94b I t w p (IR94b c I t)).F y0) ((ls94b I t w p (IR94b c I t)).FL y0) (y0.σ.Le σ))
  (hQ:∀ y':YR,(IR94b c I t y' /\ y'.i = t.length) -> Q (.exit 2) (frm [(2,.l 2 0),(3,.l 3 0)] [(2,[.nilslice,.nilslice,.int .i64 0,.int .i64 0]),(3,[y'.iv,y'.tv,.int .i64 (w:Int),.int .i64 (p:Int)])]) y'.σ) :
  AWp (EV B w0 G) none (fnTmps Tryz.prog 94) (.loop (bodyOf (fnPart Tryz.prog [] 94 1))) Q a σ:=by
 refine awp_loopS (ls94b I t w p (IR94b c I t)) (x0:=y0) (fun y hI => ?_) (fun y hI e a σ hne kk => ?_) h0 ha
 ·have hI:IR94b c I t y:=hI
  show AWp _ _ _ _ _ (frm [(1,.l 1 0),(2,.l 2 0),(3,.l 3 0),(5,.v (.int .i64 (y.i:Int)))] [(1,[.slice 4 (rL I) .any,.slice 1 (intsV t) .any,.int .i64 (w:Int),.int .i64 (p:Int)]),(2,[.nilslice,.nilslice,.int .i64 0,.int .i64 0]),(3,[y.iv,y.tv,.int .i64 (w:Int),.int .i64 (p:Int)])]) y.σ
  have hi:=hI.i
  have w1:IntKind.wrap .i64 ((y.i:Int) + 1) = ((y.i + 1:Nat):Int):=by rw [wr_small (by omega) (by omega)]; omega
  have hμ:y.i < t.length -> (intsV t).length - (y.i + 1) < (intsV t).length - y.i:=fun h => by rw [intsV_len]; omega
  have htk:∀ h:y.i < t.length,intsV (t.take (y.i + 1)) = intsV (t.take y.i) ++ [.int .i64 (t[y.i]:Int)]:=fun h => by rw [List.take_add_one,List.getElem?_eq_getElem h]; exact intsV_append _ _
  have hlt:(y.i:Int) < ((intsV t).length:Int) -> y.i < t.length:=fun h => by rw [intsV_len] at h; omega
  have hins:=hI.ins
  rcases hI.turn.inv with ⟨e,hnil⟩ | ⟨id,n,g,e,hs,hl⟩
  ·rw [e]
   refine wpX_ok H0_ok (EV_mixed B w0 G) (L:=fun _ _ _ _ => False) _ _ _ _ (fun p hp hc Q a σ k => k.elim) (by kernel_rfl) ((vc94bn B w0 G I t w p _ y).mpr (bcase_of (fun h => ?_) (fun h => ⟨fun h2 => by have h:=of_decide_eq_false h; omega,rfl,rfl,rfl,by rw [e],.refl _⟩)))
   have h:=of_decide_eq_true h
   have hk:=hlt h
   obtain ⟨c2,g1,g2,g3⟩:∃ c2:MH,At c2 (y.σ.new (.cells [.int .i64 (t[y.i]:Int)] 3 1 true)) /\ c2 .turn = some (y.σ.next,.cells [.int .i64 (t[y.i]:Int)] 3 1 true) /\ Same y.c c2 [.turn]:=⟨_,hI.at_.new .turn _,hup_self,Same.hup (by simp)⟩
   refine ⟨⟨by omega,h⟩,t[y.i],by rw [Int.toNat_natCast,intsV_get hk]; rfl,⟨by decide,by decide⟩,⟨y.σ.new (.cells [.int .i64 (t[y.i]:Int)] 3 1 true),c2,y.iv,.rslice y.σ.next 0 1,y.i + 1⟩,⟨⟨g1,hins.congr (g3 _ (by simp)),?_,hk,hI.same.trans (g3.wide (by simp))⟩,hμ hk⟩,rfl,rfl,rfl,by rw [w1],rfl,rfl,rfl,.refl _⟩
   show SlAt c2 .turn 3 1 (.rslice y.σ.next 0 1) (intsV (t.take (y.i + 1)))
   rw [htk hk,hnil]
   exact .row _ 1 true _ g2 rfl
  ·rw [e]
   rw [intsV_len,Nat.mul_one] at hl
   have hn:n = y.i:=by rw [List.length_take] at hl; omega
   have hob:=hI.at_.obj hs
   have htake:List.take (n * 1) (intsV (t.take y.i)) = intsV (t.take y.i):=List.take_of_length_le (by rw [intsV_len]; omega)
   refine wpX_ok H0_ok (EV_mixed B w0 G) (L:=fun _ _ _ _ => False) _ _ _ _ (fun p hp hc Q a σ k => k.elim) (by kernel_rfl) ((vc94br B w0 G I t w p id n _ y).mpr (bcase_of (fun h => ?_) (fun h => ⟨fun h2 => by have h:=of_decide_eq_false h; omega,rfl,rfl,rfl,by rw [e],.refl _⟩)))
   have h:=of_decide_eq_true h
   have hk:=hlt h
   obtain ⟨c2,g1,g2,g3⟩:∃ c2:MH,At c2 ((y.σ.set id .dead).new (.cells (intsV (t.take y.i) ++ [.int .i64 (t[y.i]:Int)]) 3 1 true)) /\ c2 .turn = some (y.σ.next,.cells (intsV (t.take y.i) ++ [.int .i64 (t[y.i]:Int)]) 3 1 true) /\ Same y.c c2 [.turn]:=⟨_,hI.at_.grow hs _,hup_self,Same.hup (r:=.turn) (l:=[.turn]) (by simp)⟩
   refine ⟨⟨by omega,h⟩,t[y.i],by rw [Int.toNat_natCast,intsV_get hk]; rfl,⟨intsV (t.take y.i),g⟩,hob,⟨rfl,⟨by omega,by omega⟩,by show n * 1 <= (intsV (t.take y.i)).length; rw [intsV_len]; omega⟩,⟨(y.σ.set id .dead).new (.cells (intsV (t.take y.i) ++ [.int .i64 (t[y.i]:Int)]) 3 1 true),c2,y.iv,.rslice y.σ.next 0 (n + 1),y.i + 1⟩,⟨⟨g1,hins.congr (g3 _ (by simp)),?_,hk,hI.same.trans (g3.wide (by simp))⟩,hμ hk⟩,rfl,rfl,rfl,by rw [w1],rfl,rfl,rfl,?_⟩
   ·show SlAt c2 .turn 3 1 (.rslice y.σ.next 0 (n + 1)) (intsV (t.take (y.i + 1)))
    rw [htk hk]
    refine .row _ (n + 1) true _ g2 ?_
    rw [List.length_append,intsV_len,hl]
    show n + 1 = _
    omega
   ·dsimp only
    rw [htake]
    exact .refl _
 ·cases e with
  | exit i =>
   match i,kk with
   | 2,kk =>
    have hI:IR94b c I t y:=hI
    exact ⟨_,_,(atF_ok kk.2).1,(atF_ok kk.2).2,hQ y ⟨hI,by have:=hI.i; have:=kk.1; rw [intsV_len] at this; omega⟩⟩
  | normal => exact absurd rfl hne
  | _ => exact kk.elim

theorem c94_ok:ContractOk (EV B w0 G) 94 C94r:=by
 rintro args σ Q ⟨m,c,rfl,⟨hA,hI5,ht5,hne⟩,hQ⟩
 obtain ⟨c0,hA0,hi0,ht0,hs0⟩:∃ c0:MH,At c0 σ /\ c0 .ins = none /\ c0 .turn = none /\ Same c c0 [.ins,.turn] :=
  ⟨_,(hA.drop .ins).drop .turn,(hup_ne (by simp)).trans hup_self,hup_self,(Same.hup (by simp)).trans (Same.hup (by simp))⟩
 refine bodyX_ok (cuts:=[]) (EV_mixed B w0 G) H0_ok (fun lp hl _ Q a σ kk => ?_) ((vc94 B w0 G m.I m.turn m.work m.puts (IR94a c m.I) (fun y => IR94a c m.I y /\ y.i = m.I.length) (IR94b c m.I m.turn) (fun y => IR94b c m.I m.turn y /\ y.i = m.turn.length) σ Q).mpr ?_)
 ·change lp ∈ fnParts Tryz.prog [] 94 at hl
  rw [fnParts_94] at hl
  simp only [List.mem_cons,List.not_mem_nil,or_false] at hl
  rcases hl with rfl | rfl
  ·refine handL_ok (P:=fun c Q a σ => AWp (EV B w0 G) none (fnTmps Tryz.prog 94) c Q a σ) kk (fun _ kk => ?_) fun kk => ?_
   ·obtain ⟨y,hI,ha,hq⟩:=kk
    exact loop94a hI5 hI Q a σ ha hq
   ·exact handL_ok (P:=fun c Q a σ => AWp (EV B w0 G) none (fnTmps Tryz.prog 94) c Q a σ) kk (fun e _ => by rw [headId_94.1] at e; simp at e) (fun kk => kk.elim)
  ·refine handL_ok (P:=fun c Q a σ => AWp (EV B w0 G) none (fnTmps Tryz.prog 94) c Q a σ) kk (fun e _ => by rw [headId_94.2] at e; simp at e) fun kk => ?_
   refine handL_ok (P:=fun c Q a σ => AWp (EV B w0 G) none (fnTmps Tryz.prog 94) c Q a σ) kk (fun _ kk => ?_) (fun kk => kk.elim)
   obtain ⟨y,hI,ha,hq⟩:=kk
   exact loop94b ht5 hI Q a σ ha hq
 refine ⟨⟨σ,c0,.nilslice,.nilslice,0⟩,⟨hA0,.nil,Nat.zero_le _,hs0⟩,⟨rfl,rfl,rfl,rfl,rfl,rfl,rfl,.refl _⟩,fun y ⟨hI,hy⟩ => ?_⟩
 have hins:=hI.ins
 rw [hy,List.take_length] at hins
 obtain ⟨c1,hA1,ht1,hs1,hins1⟩:∃ c1:MH,At c1 y.σ /\ c1 .turn = none /\ Same y.c c1 [.turn] /\ c1 .ins = y.c .ins:=⟨_,hI.at_.drop .turn,hup_self,Same.hup (by simp),hup_ne (by simp)⟩
 refine ⟨⟨y.σ,c1,y.iv,.nilslice,0⟩,⟨hA1,hins.congr hins1,.nil,Nat.zero_le _,hI.same.trans (hs1.wide (by simp))⟩,⟨rfl,rfl,rfl,rfl,rfl,rfl,rfl,.refl _⟩,fun y2 ⟨hI2,hy2⟩ => ?_⟩
 have hin2:=hI2.ins
 have htu2:=hI2.turn
 rw [hy2,List.take_length] at htu2
 rcases hin2.inv with ⟨e,hnil⟩ | ⟨id,n,g,e,hs,hl⟩
 ·have:=congrArg List.length hnil
  rw [flat_rL_len] at this
  simp only [List.length_nil] at this
  exact absurd (List.length_eq_zero_iff.1 (by omega)) hne
 rw [flat_rL_len] at hl
 have hn:n = m.I.length:=by omega
 subst hn
 have hfin:=hQ id g y2.tv y2.c y2.σ ⟨hI2.at_,hs,htu2,hI2.same⟩
 rw [e]
 rcases htu2.inv with ⟨e2,_⟩ | ⟨id2,n2,g2,e2,_,_⟩
 ·rw [e2] at hfin ⊢
  exact bcase_of (fun _ => hfin) (fun h => by cases h)
 ·rw [e2] at hfin ⊢
  exact bcase_of (fun _ => hfin) (fun h => by cases h)
end
end Go.V
/- Conditions: the reference's fresh. -/
namespace Go.V
open Go Go.Proofs

def hE4:Hint:=hEl 164 4
def hE4I:Hint:=Hint.ofAs (fun x:OE => AObj.cells x.cs 164 4 x.g) (fun n:Int => AV.int .i64 n)
def hE4B:Hint:=Hint.ofAs (fun x:OE => AObj.cells x.cs 164 4 x.g) (fun b:Bool => AV.bool b)
def hE4Q:Hint:=Hint.ofAs (fun x:OE => AObj.cells x.cs 164 4 x.g) (fun l:List T => AV.slice 4 (tcellL l) .any)
def hE4N:Hint:=Hint.ofNil (fun x:OE => AObj.cells x.cs 164 4 x.g) (fun l:List T => AV.slice 4 (tcellL l) .any)
def A95 (r:Bool):Nat -> FnAnn:=fun f => match Nat.beq f 95 with
 | true => ⟨fun id i => match Nat.beq id 8 && Nat.beq i 4 with
  | true => (match r with | true => .off | false => .ref)
  | false => .none,luk [] []⟩
 | false => annA f
def ls95 (id n w p:Nat) (P:YR -> Prop):LS YR where
 F y:=[(1,.l 1 0),(2,.l 2 0),(3,.v (.int .i64 (y.i:Int)))]
 FL y:=[(1,[.rslice id 0 n,y.tv,.int .i64 (w:Int),.int .i64 (p:Int)]),(2,[.nilslice,.nilslice,.int .i64 0,.int .i64 0])]
 S y:=y.σ
 I:=P
 μ y:=n - y.i
 Ex y e a σ:=match e with
  | .exit 0 => ¬ (y.i < n) /\ atF a [(1,.l 1 0),(2,.l 2 0)] [(1,[.rslice id 0 n,y.tv,.int .i64 (w:Int),.int .i64 (p:Int)]),(2,[.nilslice,.nilslice,.int .i64 0,.int .i64 0])] (y.σ.Le σ)
  | _ => False
def N95 (r:Bool):FnHint:=hAt [(4,3,hE4),(4,5,hE4I),(5,3,hE4),(5,5,hE4B),(5,11,hE4),(5,13,hE4B),(5,19,hE4),(5,21,hE4B),(5,28,hE4),(5,30,hE4Q),(6,3,hE4),(6,5,hE4),(7,3,hE4),(7,5,hE4N),(8,4,match r with | true => hEl 3 1 | false => Hint.s)]
theorem fnParts_95:fnParts Tryz.prog [] 95 = [.loop (bodyOf (fnPart Tryz.prog [] 95 0))]:=by kernel_rfl
theorem vc95n (B:Nat) (w0:World) (G:Nat -> AV) (id n w p:Nat) (P:YR -> Prop) (y:YR):(wpX [] (EV B w0 G) (H0 (EV B w0 G)) (fun _ _ _ _ => False) (A95 false 95) (N95 false) (bodyOf (fnPart Tryz.prog [] 95 0)) ((ls95 id n w p P).post y) (frm [(1,.l 1 0),(2,.l 2 0),(3,.v (.int .i64 (y.i:Int)))] [(1,[.rslice id 0 n,.nilslice,.int .i64 (w:Int),.int .i64 (p:Int)]),(2,[.nilslice,.nilslice,.int .i64 0,.int .i64 0])]) y.σ) =
 ((bcase (decide ((((YR.i y:Nat):Int):Int) < ((n:Nat):Int)))
 (∃ a0:OE,(((State.objs (y.1) (id)) = (AObj.cells (OE.cs a0) 164 4 (OE.g a0)))/\
 ((((0:Int) <= ((YR.i y:Nat):Int))/\
 ((((YR.i y:Nat):Int):Int) < ((n:Nat):Int)))/\
 (∃ a1:OE,(((State.objs (y.1) (id)) = (AObj.cells (OE.cs a1) 164 4 (OE.g a1)))/\
 ((((((0 + (Int.toNat ((YR.i y:Nat):Int))) * 4) + 3):Nat) < (List.length (OE.cs a1)))/\
 (∃ x2:Int,(((List.getD (OE.cs a1) ((0 + Int.toNat (↑(YR.i y):Int)) * 4 + 3) AV.undef) = (AV.int .i64 (x2)))/\
 (∃ a3:OE,(((State.objs (y.1) (id)) = (AObj.cells (OE.cs a3) 164 4 (OE.g a3)))/\
 ((((0:Int) <= ((YR.i y:Nat):Int))/\
 ((((YR.i y:Nat):Int):Int) < ((n:Nat):Int)))/\
 (∃ a4:OE,(((State.objs (y.1) (id)) = (AObj.cells (OE.cs a4) 164 4 (OE.g a4)))/\
 ((((((0 + (Int.toNat ((YR.i y:Nat):Int))) * 4) + 2):Nat) < (List.length (OE.cs a4)))/\
 (∃ x5:Bool,(((List.getD (OE.cs a4) ((0 + Int.toNat (↑(YR.i y):Int)) * 4 + 2) AV.undef) = (AV.bool (x5)))/\
 (bcase (!(x5))
 (∃ a6:OE,(((State.objs (y.1) (id)) = (AObj.cells (OE.cs a6) 164 4 (OE.g a6)))/\
 ((((0:Int) <= (x2))/\
 (((x2):Int) < ((n:Nat):Int)))/\
 (∃ a7:OE,(((State.objs (y.1) (id)) = (AObj.cells (OE.cs a7) 164 4 (OE.g a7)))/\
 ((((((0 + (Int.toNat (x2))) * 4) + 2):Nat) < (List.length (OE.cs a7)))/\
 (∃ x8:Bool,(((List.getD (OE.cs a7) ((0 + Int.toNat x2) * 4 + 2) AV.undef) = (AV.bool (x8)))/\
 (bcase (x8)
 (∃ a9:OE,(((State.objs (y.1) (id)) = (AObj.cells (OE.cs a9) 164 4 (OE.g a9)))/\
 ((((0:Int) <= (x2))/\
 (((x2):Int) < ((n:Nat):Int)))/\
 (∃ a10:OE,(((State.objs (y.1) (id)) = (AObj.cells (OE.cs a10) 164 4 (OE.g a10)))/\
 ((((((0 + (Int.toNat (x2))) * 4) + 1):Nat) < (List.length (OE.cs a10)))/\
 (∃ x11:Bool,(((List.getD (OE.cs a10) ((0 + Int.toNat x2) * 4 + 1) AV.undef) = (AV.bool (x11)))/\
 (bcase (!(x11))
 (∃ a12:OE,(((State.objs (y.1) (id)) = (AObj.cells (OE.cs a12) 164 4 (OE.g a12)))/\
 ((((0:Int) <= (x2))/\
 (((x2):Int) < ((n:Nat):Int)))/\
 (∃ a13:OE,(((State.objs (y.1) (id)) = (AObj.cells (OE.cs a13) 164 4 (OE.g a13)))/\
 ((((((0 + (Int.toNat (x2))) * 4) + 0):Nat) < (List.length (OE.cs a13)))/\
 (∃ x14:List T,(((List.getD (OE.cs a13) ((0 + Int.toNat x2) * 4 + 0) AV.undef) = (AV.slice 4 (tcellL x14) Cap.any))/\
 (bcase (((((List.length (tcellL x14)):Nat):Int):Int) == 0)
 (∃ a15:OE,(((State.objs (y.1) (id)) = (AObj.cells (OE.cs a15) 164 4 (OE.g a15)))/\
 ((((0:Int) <= ((YR.i y:Nat):Int))/\
 ((((YR.i y:Nat):Int):Int) < ((n:Nat):Int)))/\
 (∃ a16:OE,(((State.objs (y.1) (id)) = (AObj.cells (OE.cs a16) 164 4 (OE.g a16)))/\
 (((((((0 + (Int.toNat ((YR.i y:Nat):Int))) * 4) + 2) + 1):Nat) <= (List.length (OE.cs a16)))/\
 (∃ a17:OE,(((State.objs (State.set (y.1) (id) (AObj.cells (asplice (OE.cs a16) (((0 + (Int.toNat ((YR.i y:Nat):Int))) * 4) + 2) [(AV.bool true)]) 164 4 (OE.g a16))) (id)) = (AObj.cells (OE.cs a17) 164 4 (OE.g a17)))/\
 ((((0:Int) <= ((YR.i y:Nat):Int))/\
 ((((YR.i y:Nat):Int):Int) < ((n:Nat):Int)))/\
 (∃ a18:OE,(((State.objs (State.set (y.1) (id) (AObj.cells (asplice (OE.cs a16) (((0 + (Int.toNat ((YR.i y:Nat):Int))) * 4) + 2) [(AV.bool true)]) 164 4 (OE.g a16))) (id)) = (AObj.cells (OE.cs a18) 164 4 (OE.g a18)))/\
 ((((((0 + (Int.toNat ((YR.i y:Nat):Int))) * 4) + 0):Nat) < (List.length (OE.cs a18)))/\
 ((((List.getD (OE.cs a18) ((0 + Int.toNat (↑(YR.i y):Int)) * 4 + 0) AV.undef) = AV.nilslice)/\
 (∃ x'19:YR,(((P (x'19))/\
 (((LS.μ (ls95 id n w p P) x'19):Nat) < (LS.μ (ls95 id n w p P) y)))/\
 ((Rf (TV.l 1 0))/\
 ((Rf (TV.l 2 0))/\
 (((TV.v (AV.int .i64 (IntKind.wrap .i64 (((YR.i y:Nat):Int) + 1)))) = (TV.v (AV.int .i64 ((YR.i x'19:Nat):Int))))/\
 (([(AV.rslice (id) 0 (n)),AV.nilslice,(AV.int .i64 ((w:Nat):Int)),(AV.int .i64 ((p:Nat):Int))] = [(AV.rslice (id) 0 (n)),(YR.tv x'19),(AV.int .i64 ((w:Nat):Int)),(AV.int .i64 ((p:Nat):Int))])/\
 ((Rf [AV.nilslice,AV.nilslice,(AV.int .i64 0),(AV.int .i64 0)])/\
 (State.Le ((ls95 id n w p P).3 x'19) (State.set (y.1) (id) (AObj.cells (asplice (OE.cs a16) (((0 + (Int.toNat ((YR.i y:Nat):Int))) * 4) + 2) [(AV.bool true)]) 164 4 (OE.g a16)))))))))))) \/ (∃ x19:List T,(((List.getD (OE.cs a18) ((0 + Int.toNat (↑(YR.i y):Int)) * 4 + 0) AV.undef) = (AV.slice 4 (tcellL x19) Cap.any))/\
 (bcase (decide (((((List.length (tcellL x19)):Nat):Int):Int) > 0))
 ((((8:Nat) <= 140737488355328)/\
 ((1:Nat) <= 4611686018427387904))/\
 (∃ x'20:YR,(((P (x'20))/\
 (((LS.μ (ls95 id n w p P) x'20):Nat) < (LS.μ (ls95 id n w p P) y)))/\
 ((Rf (TV.l 1 0))/\
 ((Rf (TV.l 2 0))/\
 (((TV.v (AV.int .i64 (IntKind.wrap .i64 (((YR.i y:Nat):Int) + 1)))) = (TV.v (AV.int .i64 ((YR.i x'20:Nat):Int))))/\
 (([(AV.rslice (id) 0 (n)),(AV.rslice (State.next (y.1)) 0 1),(AV.int .i64 ((w:Nat):Int)),(AV.int .i64 ((p:Nat):Int))] = [(AV.rslice (id) 0 (n)),(YR.tv x'20),(AV.int .i64 ((w:Nat):Int)),(AV.int .i64 ((p:Nat):Int))])/\
 ((Rf [AV.nilslice,AV.nilslice,(AV.int .i64 0),(AV.int .i64 0)])/\
 (State.Le ((ls95 id n w p P).3 x'20) (State.new (State.set (y.1) (id) (AObj.cells (asplice (OE.cs a16) (((0 + (Int.toNat ((YR.i y:Nat):Int))) * 4) + 2) [(AV.bool true)]) 164 4 (OE.g a16))) (AObj.cells [(AV.int .i64 ((YR.i y:Nat):Int))] 3 1 true)))))))))))
 (∃ x'20:YR,(((P (x'20))/\
 (((LS.μ (ls95 id n w p P) x'20):Nat) < (LS.μ (ls95 id n w p P) y)))/\
 ((Rf (TV.l 1 0))/\
 ((Rf (TV.l 2 0))/\
 (((TV.v (AV.int .i64 (IntKind.wrap .i64 (((YR.i y:Nat):Int) + 1)))) = (TV.v (AV.int .i64 ((YR.i x'20:Nat):Int))))/\
 (([(AV.rslice (id) 0 (n)),AV.nilslice,(AV.int .i64 ((w:Nat):Int)),(AV.int .i64 ((p:Nat):Int))] = [(AV.rslice (id) 0 (n)),(YR.tv x'20),(AV.int .i64 ((w:Nat):Int)),(AV.int .i64 ((p:Nat):Int))])/\
 ((Rf [AV.nilslice,AV.nilslice,(AV.int .i64 0),(AV.int .i64 0)])/\
 (State.Le ((ls95 id n w p P).3 x'20) (State.set (y.1) (id) (AObj.cells (asplice (OE.cs a16) (((0 + (Int.toNat ((YR.i y:Nat):Int))) * 4) + 2) [(AV.bool true)]) 164 4 (OE.g a16)))))))))))))))))))))))))))
 (∃ x'15:YR,(((P (x'15))/\
 (((LS.μ (ls95 id n w p P) x'15):Nat) < (LS.μ (ls95 id n w p P) y)))/\
 ((Rf (TV.l 1 0))/\
 ((Rf (TV.l 2 0))/\
 (((TV.v (AV.int .i64 (IntKind.wrap .i64 (((YR.i y:Nat):Int) + 1)))) = (TV.v (AV.int .i64 ((YR.i x'15:Nat):Int))))/\
 (([(AV.rslice (id) 0 (n)),AV.nilslice,(AV.int .i64 ((w:Nat):Int)),(AV.int .i64 ((p:Nat):Int))] = [(AV.rslice (id) 0 (n)),(YR.tv x'15),(AV.int .i64 ((w:Nat):Int)),(AV.int .i64 ((p:Nat):Int))])/\
 ((Rf [AV.nilslice,AV.nilslice,(AV.int .i64 0),(AV.int .i64 0)])/\
 (State.Le ((ls95 id n w p P).3 x'15) (y.1))))))))))))))))))
 (∃ x'12:YR,(((P (x'12))/\
 (((LS.μ (ls95 id n w p P) x'12):Nat) < (LS.μ (ls95 id n w p P) y)))/\
 ((Rf (TV.l 1 0))/\
 ((Rf (TV.l 2 0))/\
 (((TV.v (AV.int .i64 (IntKind.wrap .i64 (((YR.i y:Nat):Int) + 1)))) = (TV.v (AV.int .i64 ((YR.i x'12:Nat):Int))))/\
 (([(AV.rslice (id) 0 (n)),AV.nilslice,(AV.int .i64 ((w:Nat):Int)),(AV.int .i64 ((p:Nat):Int))] = [(AV.rslice (id) 0 (n)),(YR.tv x'12),(AV.int .i64 ((w:Nat):Int)),(AV.int .i64 ((p:Nat):Int))])/\
 ((Rf [AV.nilslice,AV.nilslice,(AV.int .i64 0),(AV.int .i64 0)])/\
 (State.Le ((ls95 id n w p P).3 x'12) (y.1))))))))))))))))))
 (∃ x'9:YR,(((P (x'9))/\
 (((LS.μ (ls95 id n w p P) x'9):Nat) < (LS.μ (ls95 id n w p P) y)))/\
 ((Rf (TV.l 1 0))/\
 ((Rf (TV.l 2 0))/\
 (((TV.v (AV.int .i64 (IntKind.wrap .i64 (((YR.i y:Nat):Int) + 1)))) = (TV.v (AV.int .i64 ((YR.i x'9:Nat):Int))))/\
 (([(AV.rslice (id) 0 (n)),AV.nilslice,(AV.int .i64 ((w:Nat):Int)),(AV.int .i64 ((p:Nat):Int))] = [(AV.rslice (id) 0 (n)),(YR.tv x'9),(AV.int .i64 ((w:Nat):Int)),(AV.int .i64 ((p:Nat):Int))])/\
 ((Rf [AV.nilslice,AV.nilslice,(AV.int .i64 0),(AV.int .i64 0)])/\
 (State.Le ((ls95 id n w p P).3 x'9) (y.1))))))))))))))))))
 (∃ x'6:YR,(((P (x'6))/\
 (((LS.μ (ls95 id n w p P) x'6):Nat) < (LS.μ (ls95 id n w p P) y)))/\
 ((Rf (TV.l 1 0))/\
 ((Rf (TV.l 2 0))/\
 (((TV.v (AV.int .i64 (IntKind.wrap .i64 (((YR.i y:Nat):Int) + 1)))) = (TV.v (AV.int .i64 ((YR.i x'6:Nat):Int))))/\
 (([(AV.rslice (id) 0 (n)),AV.nilslice,(AV.int .i64 ((w:Nat):Int)),(AV.int .i64 ((p:Nat):Int))] = [(AV.rslice (id) 0 (n)),(YR.tv x'6),(AV.int .i64 ((w:Nat):Int)),(AV.int .i64 ((p:Nat):Int))])/\
 ((Rf [AV.nilslice,AV.nilslice,(AV.int .i64 0),(AV.int .i64 0)])/\
 (State.Le ((ls95 id n w p P).3 x'6) (y.1))))))))))))))))))))))))))
 ((((YR.i y:Nat) < (n)) -> False)/\
 ((Rf (TV.l 1 0))/\
 ((Rf (TV.l 2 0))/\
 (([(AV.rslice (id) 0 (n)),AV.nilslice,(AV.int .i64 ((w:Nat):Int)),(AV.int .i64 ((p:Nat):Int))] = [(AV.rslice (id) 0 (n)),(YR.tv y),(AV.int .i64 ((w:Nat):Int)),(AV.int .i64 ((p:Nat):Int))])/\
 ((Rf [AV.nilslice,AV.nilslice,(AV.int .i64 0),(AV.int .i64 0)])/\
 (State.Le (y.1) (y.1))))))))):=by kernel_rfl
theorem vc95r (B:Nat) (w0:World) (G:Nat -> AV) (id n w p tid off k:Nat) (P:YR -> Prop) (y:YR):(wpX [] (EV B w0 G) (H0 (EV B w0 G)) (fun _ _ _ _ => False) (A95 true 95) (N95 true) (bodyOf (fnPart Tryz.prog [] 95 0)) ((ls95 id n w p P).post y) (frm [(1,.l 1 0),(2,.l 2 0),(3,.v (.int .i64 (y.i:Int)))] [(1,[.rslice id 0 n,.rslice tid off k,.int .i64 (w:Int),.int .i64 (p:Int)]),(2,[.nilslice,.nilslice,.int .i64 0,.int .i64 0])]) y.σ) =
 ((bcase (decide ((((YR.i y:Nat):Int):Int) < ((n:Nat):Int)))
 (∃ a0:OE,(((State.objs (y.1) (id)) = (AObj.cells (OE.cs a0) 164 4 (OE.g a0)))/\
 ((((0:Int) <= ((YR.i y:Nat):Int))/\
 ((((YR.i y:Nat):Int):Int) < ((n:Nat):Int)))/\
 (∃ a1:OE,(((State.objs (y.1) (id)) = (AObj.cells (OE.cs a1) 164 4 (OE.g a1)))/\
 ((((((0 + (Int.toNat ((YR.i y:Nat):Int))) * 4) + 3):Nat) < (List.length (OE.cs a1)))/\
 (∃ x2:Int,(((List.getD (OE.cs a1) ((0 + Int.toNat (↑(YR.i y):Int)) * 4 + 3) AV.undef) = (AV.int .i64 (x2)))/\
 (∃ a3:OE,(((State.objs (y.1) (id)) = (AObj.cells (OE.cs a3) 164 4 (OE.g a3)))/\
 ((((0:Int) <= ((YR.i y:Nat):Int))/\
 ((((YR.i y:Nat):Int):Int) < ((n:Nat):Int)))/\
 (∃ a4:OE,(((State.objs (y.1) (id)) = (AObj.cells (OE.cs a4) 164 4 (OE.g a4)))/\
 ((((((0 + (Int.toNat ((YR.i y:Nat):Int))) * 4) + 2):Nat) < (List.length (OE.cs a4)))/\
 (∃ x5:Bool,(((List.getD (OE.cs a4) ((0 + Int.toNat (↑(YR.i y):Int)) * 4 + 2) AV.undef) = (AV.bool (x5)))/\
 (bcase (!(x5))
 (∃ a6:OE,(((State.objs (y.1) (id)) = (AObj.cells (OE.cs a6) 164 4 (OE.g a6)))/\
 ((((0:Int) <= (x2))/\
 (((x2):Int) < ((n:Nat):Int)))/\
 (∃ a7:OE,(((State.objs (y.1) (id)) = (AObj.cells (OE.cs a7) 164 4 (OE.g a7)))/\
 ((((((0 + (Int.toNat (x2))) * 4) + 2):Nat) < (List.length (OE.cs a7)))/\
 (∃ x8:Bool,(((List.getD (OE.cs a7) ((0 + Int.toNat x2) * 4 + 2) AV.undef) = (AV.bool (x8)))/\
 (bcase (x8)
 (∃ a9:OE,(((State.objs (y.1) (id)) = (AObj.cells (OE.cs a9) 164 4 (OE.g a9)))/\
 ((((0:Int) <= (x2))/\
 (((x2):Int) < ((n:Nat):Int)))/\
 (∃ a10:OE,(((State.objs (y.1) (id)) = (AObj.cells (OE.cs a10) 164 4 (OE.g a10)))/\
 ((((((0 + (Int.toNat (x2))) * 4) + 1):Nat) < (List.length (OE.cs a10)))/\
 (∃ x11:Bool,(((List.getD (OE.cs a10) ((0 + Int.toNat x2) * 4 + 1) AV.undef) = (AV.bool (x11)))/\
 (bcase (!(x11))
 (∃ a12:OE,(((State.objs (y.1) (id)) = (AObj.cells (OE.cs a12) 164 4 (OE.g a12)))/\
 ((((0:Int) <= (x2))/\
 (((x2):Int) < ((n:Nat):Int)))/\
 (∃ a13:OE,(((State.objs (y.1) (id)) = (AObj.cells (OE.cs a13) 164 4 (OE.g a13)))/\
 ((((((0 + (Int.toNat (x2))) * 4) + 0):Nat) < (List.length (OE.cs a13)))/\
 (∃ x14:List T,(((List.getD (OE.cs a13) ((0 + Int.toNat x2) * 4 + 0) AV.undef) = (AV.slice 4 (tcellL x14) Cap.any))/\
 (bcase (((((List.length (tcellL x14)):Nat):Int):Int) == 0)
 (∃ a15:OE,(((State.objs (y.1) (id)) = (AObj.cells (OE.cs a15) 164 4 (OE.g a15)))/\
 ((((0:Int) <= ((YR.i y:Nat):Int))/\
 ((((YR.i y:Nat):Int):Int) < ((n:Nat):Int)))/\
 (∃ a16:OE,(((State.objs (y.1) (id)) = (AObj.cells (OE.cs a16) 164 4 (OE.g a16)))/\
 (((((((0 + (Int.toNat ((YR.i y:Nat):Int))) * 4) + 2) + 1):Nat) <= (List.length (OE.cs a16)))/\
 (∃ a17:OE,(((State.objs (State.set (y.1) (id) (AObj.cells (asplice (OE.cs a16) (((0 + (Int.toNat ((YR.i y:Nat):Int))) * 4) + 2) [(AV.bool true)]) 164 4 (OE.g a16))) (id)) = (AObj.cells (OE.cs a17) 164 4 (OE.g a17)))/\
 ((((0:Int) <= ((YR.i y:Nat):Int))/\
 ((((YR.i y:Nat):Int):Int) < ((n:Nat):Int)))/\
 (∃ a18:OE,(((State.objs (State.set (y.1) (id) (AObj.cells (asplice (OE.cs a16) (((0 + (Int.toNat ((YR.i y:Nat):Int))) * 4) + 2) [(AV.bool true)]) 164 4 (OE.g a16))) (id)) = (AObj.cells (OE.cs a18) 164 4 (OE.g a18)))/\
 ((((((0 + (Int.toNat ((YR.i y:Nat):Int))) * 4) + 0):Nat) < (List.length (OE.cs a18)))/\
 ((((List.getD (OE.cs a18) ((0 + Int.toNat (↑(YR.i y):Int)) * 4 + 0) AV.undef) = AV.nilslice)/\
 (∃ x'19:YR,(((P (x'19))/\
 (((LS.μ (ls95 id n w p P) x'19):Nat) < (LS.μ (ls95 id n w p P) y)))/\
 ((Rf (TV.l 1 0))/\
 ((Rf (TV.l 2 0))/\
 (((TV.v (AV.int .i64 (IntKind.wrap .i64 (((YR.i y:Nat):Int) + 1)))) = (TV.v (AV.int .i64 ((YR.i x'19:Nat):Int))))/\
 (([(AV.rslice (id) 0 (n)),(AV.rslice (tid) (off) (k)),(AV.int .i64 ((w:Nat):Int)),(AV.int .i64 ((p:Nat):Int))] = [(AV.rslice (id) 0 (n)),(YR.tv x'19),(AV.int .i64 ((w:Nat):Int)),(AV.int .i64 ((p:Nat):Int))])/\
 ((Rf [AV.nilslice,AV.nilslice,(AV.int .i64 0),(AV.int .i64 0)])/\
 (State.Le ((ls95 id n w p P).3 x'19) (State.set (y.1) (id) (AObj.cells (asplice (OE.cs a16) (((0 + (Int.toNat ((YR.i y:Nat):Int))) * 4) + 2) [(AV.bool true)]) 164 4 (OE.g a16)))))))))))) \/ (∃ x19:List T,(((List.getD (OE.cs a18) ((0 + Int.toNat (↑(YR.i y):Int)) * 4 + 0) AV.undef) = (AV.slice 4 (tcellL x19) Cap.any))/\
 (bcase (decide (((((List.length (tcellL x19)):Nat):Int):Int) > 0))
 (∃ a20:OE,(((State.objs (State.set (y.1) (id) (AObj.cells (asplice (OE.cs a16) (((0 + (Int.toNat ((YR.i y:Nat):Int))) * 4) + 2) [(AV.bool true)]) 164 4 (OE.g a16))) (tid)) = (AObj.cells (OE.cs a20) 3 1 (OE.g a20)))/\
 ((((((((k) + 1) * 8):Nat) <= 140737488355328)/\
 ((((k) + 1):Nat) <= 4611686018427387904))/\
 (((((off) + (k)) * 1):Nat) <= (List.length (OE.cs a20))))/\
 ((∃ x'21:YR,(((P (x'21))/\
 (((LS.μ (ls95 id n w p P) x'21):Nat) < (LS.μ (ls95 id n w p P) y)))/\
 ((Rf (TV.l 1 0))/\
 ((Rf (TV.l 2 0))/\
 (((TV.v (AV.int .i64 (IntKind.wrap .i64 (((YR.i y:Nat):Int) + 1)))) = (TV.v (AV.int .i64 ((YR.i x'21:Nat):Int))))/\
 (([(AV.rslice (id) 0 (n)),(AV.rslice (State.next (y.1)) (off) ((k) + 1)),(AV.int .i64 ((w:Nat):Int)),(AV.int .i64 ((p:Nat):Int))] = [(AV.rslice (id) 0 (n)),(YR.tv x'21),(AV.int .i64 ((w:Nat):Int)),(AV.int .i64 ((p:Nat):Int))])/\
 ((Rf [AV.nilslice,AV.nilslice,(AV.int .i64 0),(AV.int .i64 0)])/\
 (State.Le ((ls95 id n w p P).3 x'21) (State.new (State.set (State.set (y.1) (id) (AObj.cells (asplice (OE.cs a16) (((0 + (Int.toNat ((YR.i y:Nat):Int))) * 4) + 2) [(AV.bool true)]) 164 4 (OE.g a16))) (tid) AObj.dead) (AObj.cells ((List.take (((off) + (k)) * 1) (OE.cs a20)) ++ [(AV.int .i64 ((YR.i y:Nat):Int))]) 3 1 true))))))))))/\
 (∃ x'21:YR,(((P (x'21))/\
 (((LS.μ (ls95 id n w p P) x'21):Nat) < (LS.μ (ls95 id n w p P) y)))/\
 ((Rf (TV.l 1 0))/\
 ((Rf (TV.l 2 0))/\
 (((TV.v (AV.int .i64 (IntKind.wrap .i64 (((YR.i y:Nat):Int) + 1)))) = (TV.v (AV.int .i64 ((YR.i x'21:Nat):Int))))/\
 (([(AV.rslice (id) 0 (n)),(AV.rslice (State.next (y.1)) 0 ((k) + 1)),(AV.int .i64 ((w:Nat):Int)),(AV.int .i64 ((p:Nat):Int))] = [(AV.rslice (id) 0 (n)),(YR.tv x'21),(AV.int .i64 ((w:Nat):Int)),(AV.int .i64 ((p:Nat):Int))])/\
 ((Rf [AV.nilslice,AV.nilslice,(AV.int .i64 0),(AV.int .i64 0)])/\
 (State.Le ((ls95 id n w p P).3 x'21) (State.new (State.set (State.set (y.1) (id) (AObj.cells (asplice (OE.cs a16) (((0 + (Int.toNat ((YR.i y:Nat):Int))) * 4) + 2) [(AV.bool true)]) 164 4 (OE.g a16))) (tid) AObj.dead) (AObj.cells ((List.take ((k) * 1) (List.drop ((off) * 1) (OE.cs a20))) ++ [(AV.int .i64 ((YR.i y:Nat):Int))]) 3 1 true))))))))))))))
 (∃ x'20:YR,(((P (x'20))/\
 (((LS.μ (ls95 id n w p P) x'20):Nat) < (LS.μ (ls95 id n w p P) y)))/\
 ((Rf (TV.l 1 0))/\
 ((Rf (TV.l 2 0))/\
 (((TV.v (AV.int .i64 (IntKind.wrap .i64 (((YR.i y:Nat):Int) + 1)))) = (TV.v (AV.int .i64 ((YR.i x'20:Nat):Int))))/\
 (([(AV.rslice (id) 0 (n)),(AV.rslice (tid) (off) (k)),(AV.int .i64 ((w:Nat):Int)),(AV.int .i64 ((p:Nat):Int))] = [(AV.rslice (id) 0 (n)),(YR.tv x'20),(AV.int .i64 ((w:Nat):Int)),(AV.int .i64 ((p:Nat):Int))])/\
 ((Rf [AV.nilslice,AV.nilslice,(AV.int .i64 0),(AV.int .i64 0)])/\
 (State.Le ((ls95 id n w p P).3 x'20) (State.set (y.1) (id) (AObj.cells (asplice (OE.cs a16) (((0 + (Int.toNat ((YR.i y:Nat):Int))) * 4) + 2) [(AV.bool true)]) 164 4 (OE.g a16)))))))))))))))))))))))))))
 (∃ x'15:YR,(((P (x'15))/\
 (((LS.μ (ls95 id n w p P) x'15):Nat) < (LS.μ (ls95 id n w p P) y)))/\
 ((Rf (TV.l 1 0))/\
 ((Rf (TV.l 2 0))/\
 (((TV.v (AV.int .i64 (IntKind.wrap .i64 (((YR.i y:Nat):Int) + 1)))) = (TV.v (AV.int .i64 ((YR.i x'15:Nat):Int))))/\
 (([(AV.rslice (id) 0 (n)),(AV.rslice (tid) (off) (k)),(AV.int .i64 ((w:Nat):Int)),(AV.int .i64 ((p:Nat):Int))] = [(AV.rslice (id) 0 (n)),(YR.tv x'15),(AV.int .i64 ((w:Nat):Int)),(AV.int .i64 ((p:Nat):Int))])/\
 ((Rf [AV.nilslice,AV.nilslice,(AV.int .i64 0),(AV.int .i64 0)])/\
 (State.Le ((ls95 id n w p P).3 x'15) (y.1))))))))))))))))))
 (∃ x'12:YR,(((P (x'12))/\
 (((LS.μ (ls95 id n w p P) x'12):Nat) < (LS.μ (ls95 id n w p P) y)))/\
 ((Rf (TV.l 1 0))/\
 ((Rf (TV.l 2 0))/\
 (((TV.v (AV.int .i64 (IntKind.wrap .i64 (((YR.i y:Nat):Int) + 1)))) = (TV.v (AV.int .i64 ((YR.i x'12:Nat):Int))))/\
 (([(AV.rslice (id) 0 (n)),(AV.rslice (tid) (off) (k)),(AV.int .i64 ((w:Nat):Int)),(AV.int .i64 ((p:Nat):Int))] = [(AV.rslice (id) 0 (n)),(YR.tv x'12),(AV.int .i64 ((w:Nat):Int)),(AV.int .i64 ((p:Nat):Int))])/\
 ((Rf [AV.nilslice,AV.nilslice,(AV.int .i64 0),(AV.int .i64 0)])/\
 (State.Le ((ls95 id n w p P).3 x'12) (y.1))))))))))))))))))
 (∃ x'9:YR,(((P (x'9))/\
 (((LS.μ (ls95 id n w p P) x'9):Nat) < (LS.μ (ls95 id n w p P) y)))/\
 ((Rf (TV.l 1 0))/\
 ((Rf (TV.l 2 0))/\
 (((TV.v (AV.int .i64 (IntKind.wrap .i64 (((YR.i y:Nat):Int) + 1)))) = (TV.v (AV.int .i64 ((YR.i x'9:Nat):Int))))/\
 (([(AV.rslice (id) 0 (n)),(AV.rslice (tid) (off) (k)),(AV.int .i64 ((w:Nat):Int)),(AV.int .i64 ((p:Nat):Int))] = [(AV.rslice (id) 0 (n)),(YR.tv x'9),(AV.int .i64 ((w:Nat):Int)),(AV.int .i64 ((p:Nat):Int))])/\
 ((Rf [AV.nilslice,AV.nilslice,(AV.int .i64 0),(AV.int .i64 0)])/\
 (State.Le ((ls95 id n w p P).3 x'9) (y.1))))))))))))))))))
 (∃ x'6:YR,(((P (x'6))/\
 (((LS.μ (ls95 id n w p P) x'6):Nat) < (LS.μ (ls95 id n w p P) y)))/\
 ((Rf (TV.l 1 0))/\
 ((Rf (TV.l 2 0))/\
 (((TV.v (AV.int .i64 (IntKind.wrap .i64 (((YR.i y:Nat):Int) + 1)))) = (TV.v (AV.int .i64 ((YR.i x'6:Nat):Int))))/\
 (([(AV.rslice (id) 0 (n)),(AV.rslice (tid) (off) (k)),(AV.int .i64 ((w:Nat):Int)),(AV.int .i64 ((p:Nat):Int))] = [(AV.rslice (id) 0 (n)),(YR.tv x'6),(AV.int .i64 ((w:Nat):Int)),(AV.int .i64 ((p:Nat):Int))])/\
 ((Rf [AV.nilslice,AV.nilslice,(AV.int .i64 0),(AV.int .i64 0)])/\
 (State.Le ((ls95 id n w p P).3 x'6) (y.1))))))))))))))))))))))))))
 ((((YR.i y:Nat) < (n)) -> False)/\
 ((Rf (TV.l 1 0))/\
 ((Rf (TV.l 2 0))/\
 (([(AV.rslice (id) 0 (n)),(AV.rslice (tid) (off) (k)),(AV.int .i64 ((w:Nat):Int)),(AV.int .i64 ((p:Nat):Int))] = [(AV.rslice (id) 0 (n)),(YR.tv y),(AV.int .i64 ((w:Nat):Int)),(AV.int .i64 ((p:Nat):Int))])/\
 ((Rf [AV.nilslice,AV.nilslice,(AV.int .i64 0),(AV.int .i64 0)])/\
 (State.Le (y.1) (y.1))))))))):=by kernel_rfl
def T95 (id n w p:Nat) (P R:YR -> Prop):LHand:=fun _ Q a σ => ∃ y:YR,P y /\ atF a ((ls95 id n w p P).F y) ((ls95 id n w p P).FL y) (y.σ.Le σ) /\
 ∀ y':YR,R y' -> Q (.exit 0) (frm [(1,.l 1 0),(2,.l 2 0)] [(1,[.rslice id 0 n,y'.tv,.int .i64 (w:Int),.int .i64 (p:Int)]),(2,[.nilslice,.nilslice,.int .i64 0,.int .i64 0])]) y'.σ
theorem vc95 (B:Nat) (w0:World) (G:Nat -> AV) (id n w p:Nat) (tv:AV) (P R:YR -> Prop) (σ:State) (Q:AV -> State -> Prop):(bodyX [] (EV B w0 G) (H0 (EV B w0 G)) (T95 id n w p P R) annA noHint 95 [.agg [.rslice id 0 n,tv,.int .i64 (w:Int),.int .i64 (p:Int)]] σ Q) =
 ((bcase (true && ((AV.one (tv)) && (true && (true && true))))
 (∃ y0:YR,((P (y0))/\
 (((Rf (TV.l 1 0))/\
 ((Rf (TV.l 2 0))/\
 (((TV.v (AV.int .i64 0)) = (TV.v (AV.int .i64 ((YR.i y0:Nat):Int))))/\
 (([(AV.rslice (id) 0 (n)),(tv),(AV.int .i64 ((w:Nat):Int)),(AV.int .i64 ((p:Nat):Int))] = [(AV.rslice (id) 0 (n)),(YR.tv y0),(AV.int .i64 ((w:Nat):Int)),(AV.int .i64 ((p:Nat):Int))])/\
 ((Rf [AV.nilslice,AV.nilslice,(AV.int .i64 0),(AV.int .i64 0)])/\
 (State.Le (y0.1) σ))))))/\
 (∀ y'1:YR,((R (y'1)) -> (bcase (true && (true && ((true && ((AV.one (YR.tv y'1)) && (true && (true && true)))) && true)))
 (Q (AV.agg [(AV.rslice (id) 0 (n)),(YR.tv y'1),(AV.int .i64 ((w:Nat):Int)),(AV.int .i64 ((p:Nat):Int))]) (y'1.1))
 False))))))
 False)):=by kernel_rfl
end Go.V
/- The reference's fresh. -/
namespace Go.V
open Go Go.Proofs

def rcl (v:AV) (x:RI):List AV:=[v,.bool x.op,.bool x.fr,.int .i64 x.bh]
def rLq:List AV -> List RI -> List AV
 | v :: qs,x :: l => .agg (rcl v x) :: rLq qs l
 | _,_ => []
def sliceQ (l:List RI):List AV:=l.map fun x => .slice 4 (tcellL x.q) .any
theorem rLq_slice (l:List RI):rLq (sliceQ l) l = rL l:=by
 induction l with
 | nil => rfl
 | cons x l ih =>
  show AV.agg (rcl (.slice 4 (tcellL x.q) .any) x) :: rLq (sliceQ l) l = .agg (rcells x) :: rL l
  rw [ih]; rfl
theorem flat_rLq_len:∀ {qs:List AV} {l:List RI},qs.length = l.length -> (flat (rLq qs l)).length = l.length * 4
 | [],[],_ => rfl
 | v :: qs,x :: l,h => by
  show (flat (.agg (rcl v x) :: rLq qs l)).length = _
  rw [flat_cons,List.length_append,flat_rLq_len (by simpa using h)]
  show 4 + l.length * 4 = _
  simp; omega
 | [],x :: l,h => by simp at h
 | v :: qs,[],h => by simp at h
theorem rget:∀ {qs:List AV} {l:List RI} {i j:Nat} (hl:qs.length = l.length) (h:i < l.length) (hj:j < 4),List.getD (flat (rLq qs l)) (i * 4 + j) .undef = (rcl (qs.getD i .undef) l[i]).getD j .undef
 | v :: qs,x :: l,0,j,hl,h,hj => by
  show List.getD (flat (.agg (rcl v x) :: rLq qs l)) _ _ = _
  rw [flat_cons,Nat.zero_mul,Nat.zero_add]
  simp only [List.getD]
  rw [List.getElem?_append_left (by show j < 4; exact hj)]
  rfl
 | v :: qs,x :: l,i + 1,j,hl,h,hj => by
  show List.getD (flat (.agg (rcl v x) :: rLq qs l)) _ _ = _
  rw [flat_cons]
  have:=rget (qs:=qs) (l:=l) (i:=i) (j:=j) (by simpa using hl) (by simpa using h) hj
  simp only [List.getD] at this ⊢
  rw [List.getElem?_append_right (by show 4 <= _; omega),show (i + 1) * 4 + j - (AV.agg (rcl v x)).cells.length = i * 4 + j by show (i + 1) * 4 + j - 4 = _; omega,this]
  rfl
 | [],[],i,j,hl,h,hj => by simp at h
 | [],x :: l,i,j,hl,h,hj => by simp at hl
 | v :: qs,[],i,j,hl,h,hj => by simp at h
theorem rset:∀ {qs:List AV} {l:List RI} {i j:Nat} {x:RI} {v:AV} (hl:qs.length = l.length) (h:i < l.length) (hj:j < 4) (hx:rcl (qs.getD i .undef) x = (rcl (qs.getD i .undef) l[i]).take j ++ v :: (rcl (qs.getD i .undef) l[i]).drop (j + 1)),asplice (flat (rLq qs l)) (i * 4 + j) [v] = flat (rLq qs (l.set i x))
 | q :: qs,y :: l,0,j,x,v,hl,h,hj,hx => by
  show asplice (flat (.agg (rcl q y) :: rLq qs l)) _ _ = flat (.agg (rcl q x) :: rLq qs l)
  rw [flat_cons,flat_cons,Nat.zero_mul,Nat.zero_add]
  have hx:rcl q x = (rcl q y).take j ++ v :: (rcl q y).drop (j + 1):=hx
  show asplice (rcl q y ++ _) j [v] = rcl q x ++ _
  rw [hx]
  unfold asplice
  have h4:(rcl q y).length = 4:=rfl
  rw [List.take_append_of_le_length (by omega),List.drop_append_of_le_length (by simp; omega)]
  simp
 | q :: qs,y :: l,i + 1,j,x,v,hl,h,hj,hx => by
  have ih:=rset (qs:=qs) (l:=l) (i:=i) (j:=j) (x:=x) (v:=v) (by simpa using hl) (by simpa using h) hj hx
  show asplice (flat (.agg (rcl q y) :: rLq qs l)) _ _ = flat (.agg (rcl q y) :: rLq qs (l.set i x))
  rw [flat_cons,flat_cons,<-ih]
  show asplice (rcl q y ++ _) _ _ = rcl q y ++ _
  unfold asplice
  have h4:(rcl q y).length = 4:=rfl
  rw [List.take_append,List.drop_append,List.take_of_length_le (by omega),List.drop_of_length_le (by simp; omega),h4,show (i + 1) * 4 + j - 4 = i * 4 + j by omega,show (i + 1) * 4 + j + [v].length - 4 = i * 4 + j + [v].length by simp; omega]
  simp
 | [],[],i,j,x,v,hl,h,hj,hx => by simp at h
 | [],y :: l,i,j,x,v,hl,h,hj,hx => by simp at hl
 | q :: qs,[],i,j,x,v,hl,h,hj,hx => by simp at h
def QV (v:AV) (q:List T):Prop:=v = .slice 4 (tcellL q) .any \/ (v = .nilslice /\ q = [])
structure QsOk (qs:List AV) (m:RM):Prop where
 len:qs.length = m.I.length
 ok:∀ k,k < m.I.length -> QV (qs.getD k .undef) (m.at k).q
 old:∀ i,i < m.I.length -> (m.at i).fr = false -> qs.getD (m.at i).bh.toNat .undef = .slice 4 (tcellL (m.at (m.at i).bh.toNat).q) .any

def mj (m:RM) (j:Nat):RM:=(List.range j).foldl freshAt m
theorem mj_succ (m:RM) (j:Nat):mj m (j + 1) = freshAt (mj m j) j:=by
 unfold mj; rw [List.range_succ,List.foldl_append]; rfl
theorem freshAt_len (m:RM) (j:Nat):(freshAt m j).I.length = m.I.length:=by
 unfold freshAt; split
 ·exact List.length_set
 ·rfl
theorem mj_len (m:RM) (j:Nat):(mj m j).I.length = m.I.length:=by
 induction j with
 | zero => rfl
 | succ j ih => rw [mj_succ,freshAt_len,ih]
theorem mj_at (m:RM):∀ j k,j <= k -> (mj m j).at k = m.at k:=by
 intro j
 induction j with
 | zero => exact fun k _ => rfl
 | succ j ih =>
  intro k hk
  rw [mj_succ,<-ih k (by omega)]
  unfold freshAt
  split
  ·show ((mj m j).I.set j _).getD k RI.no = _
   rw [getD_set,if_neg (by omega)]; rfl
  ·rfl
theorem mj_turn_len (m:RM) (j:Nat):(mj m j).turn.length <= m.turn.length + j:=by
 induction j with
 | zero => exact Nat.le_refl _
 | succ j ih =>
  rw [mj_succ]
  unfold freshAt
  split
  ·dsimp only
   split
   ·omega
   ·rw [List.length_append]; simp; omega
  ·omega
theorem mj_q (m:RM) (j k:Nat):((mj m j).at k).q = (m.at k).q /\ ((mj m j).at k).op = (m.at k).op /\ ((mj m j).at k).bh = (m.at k).bh:=by
 induction j with
 | zero => exact ⟨rfl,rfl,rfl⟩
 | succ j ih =>
  rw [mj_succ]
  unfold freshAt
  split
  ·have e:RM.at { mj m j with I:=(mj m j).I.set j { (mj m j).at j with fr:=true },turn:=if ((mj m j).at j).q.isEmpty then (mj m j).turn else (mj m j).turn ++ [j] } k = if j = k /\ k < (mj m j).I.length then { (mj m j).at j with fr:=true } else (mj m j).at k:=getD_set _ _ _ _ _
   rw [e]
   split
   ·rename_i h; obtain ⟨rfl,_⟩:=h; exact ih
   ·exact ih
  ·exact ih
theorem fresh_work (m:RM):m.fresh.work = m.work /\ m.fresh.puts = m.puts:=by
 show (mj m m.I.length).work = m.work /\ (mj m m.I.length).puts = m.puts
 generalize m.I.length = j
 induction j with
 | zero => exact ⟨rfl,rfl⟩
 | succ j ih =>
  rw [mj_succ]
  unfold freshAt
  split <;> exact ih

def RoAt (c:MH) (r:MRole) (e sz:Nat) (v:AV) (cs:List AV):Prop:=(v = .nilslice /\ cs = []) \/ ∃ (id off n:Nat) (g:Bool) (pre:List AV),v = .rslice id off n /\ c r = some (id,.cells (pre ++ cs) e sz g) /\ pre.length = off * sz /\ cs.length = n * sz
theorem RoAt.congr {c c':MH} {r:MRole} {e sz:Nat} {v:AV} {cs:List AV} (h:RoAt c r e sz v cs) (hc:c' r = c r):RoAt c' r e sz v cs:=by
 rcases h with h | ⟨id,off,n,g,pre,h1,h2,h3⟩
 ·exact .inl h
 ·exact .inr ⟨id,off,n,g,pre,h1,hc.trans h2,h3⟩
theorem SlAt.ro {c:MH} {r:MRole} {e sz:Nat} {v:AV} {cs:List AV} (h:SlAt c r e sz v cs):RoAt c r e sz v cs:=by
 rcases h.inv with h | ⟨id,n,g,h1,h2,h3⟩
 ·exact .inl h
 ·exact .inr ⟨id,0,n,g,[],h1,h2,by simp,h3⟩

def C95r:Contract:=fun args σ K => ∃ (m:RM) (c:MH) (id:Nat) (g:Bool) (tv:AV) (qs:List AV),args = [.agg [.rslice id 0 m.I.length,tv,.int .i64 (m.work:Int),.int .i64 (m.puts:Int)]] /\
 (At c σ /\ c .ins = some (id,.cells (flat (rLq qs m.I)) 164 4 g) /\ RoAt c .turn 3 1 tv (intsV m.turn) /\ m.I.length <= 5000 /\ m.turn.length <= 5000 /\ m.Ranked /\ QsOk qs m) /\
 ∀ (tv':AV) (c':MH) (σ':State),(At c' σ' /\ c' .ins = some (id,.cells (flat (rLq qs m.fresh.I)) 164 4 g) /\ RoAt c' .turn 3 1 tv' (intsV m.fresh.turn) /\ Same c c' [.ins,.turn] /\ (tv ≠ .nilslice -> tv' ≠ .nilslice)) -> K (.agg [.rslice id 0 m.I.length,tv',.int .i64 (m.work:Int),.int .i64 (m.puts:Int)]) σ'

structure IR95 (m:RM) (c:MH) (id:Nat) (g:Bool) (qs:List AV) (tv0:AV) (y:YR):Prop where
 at_:At y.c y.σ
 ins:y.c .ins = some (id,.cells (flat (rLq qs (mj m y.i).I)) 164 4 g)
 nz:tv0 ≠ .nilslice -> y.tv ≠ .nilslice
 turn:RoAt y.c .turn 3 1 y.tv (intsV (mj m y.i).turn)
 i:y.i <= m.I.length
 same:Same c y.c [.ins,.turn]

theorem at_get {m:RM} {i:Nat} (h:i < m.I.length):m.I[i] = m.at i:=by
 unfold RM.at; simp [List.getD,List.getElem?_eq_getElem h]

section
variable {B:Nat} {w0:World} {G:Nat -> AV}
theorem loop95 {m:RM} {c:MH} {id:Nat} {g:Bool} {qs:List AV} {tv0:AV} {w p:Nat} (hI5:m.I.length <= 5000) (ht5:m.turn.length <= 5000) (hr:m.Ranked) (hqs:QsOk qs m) {y0:YR} (h0:IR95 m c id g qs tv0 y0) (Q:Post) (a:AAct) (σ:State)
  (ha:atF a ((ls95 id m.I.length w p (IR95 m c id g qs tv0)).F y0) ((ls95 id m.I.length w p (IR95 m c id g qs tv0)).FL y0) (y0.σ.Le σ))
  (hQ:∀ y':YR,(IR95 m c id g qs tv0 y' /\ y'.i = m.I.length) -> Q (.exit 0) (frm [(1,.l 1 0),(2,.l 2 0)] [(1,[.rslice id 0 m.I.length,y'.tv,.int .i64 (w:Int),.int .i64 (p:Int)]),(2,[.nilslice,.nilslice,.int .i64 0,.int .i64 0])]) y'.σ) :
  AWp (EV B w0 G) none (fnTmps Tryz.prog 95) (.loop (bodyOf (fnPart Tryz.prog [] 95 0))) Q a σ:=by
 refine awp_loopS (ls95 id m.I.length w p (IR95 m c id g qs tv0)) (x0:=y0) (fun y hI => ?_) (fun y hI e a σ hne kk => ?_) h0 ha
 ·have hI:IR95 m c id g qs tv0 y:=hI
  show AWp _ _ _ _ _ (frm [(1,.l 1 0),(2,.l 2 0),(3,.v (.int .i64 (y.i:Int)))] [(1,[.rslice id 0 m.I.length,y.tv,.int .i64 (w:Int),.int .i64 (p:Int)]),(2,[.nilslice,.nilslice,.int .i64 0,.int .i64 0])]) y.σ
  have hi:=hI.i
  have hins:=hI.ins
  have hino:=hI.at_.obj hins
  have hlt':=hI.at_.lt hins
  have w1:IntKind.wrap .i64 ((y.i:Int) + 1) = ((y.i + 1:Nat):Int):=by rw [wr_small (by omega) (by omega)]; omega
  have hml:=mj_len m y.i
  have hsucc:=mj_succ m y.i
  have htl:=mj_turn_len m y.i
  have hmq:=mj_q m y.i
  have hself:y.i < m.I.length -> (mj m y.i).at y.i = m.at y.i:=fun _ => mj_at m y.i y.i (Nat.le_refl _)
  generalize hM:mj m y.i = M at *
  have hqm:qs.length = M.I.length:=hqs.len.trans hml.symm
  have hoc:(flat (rLq qs M.I)).length = m.I.length * 4:=by rw [flat_rLq_len hqm,hml]
  -- reading
  have rd:∀ (k j:Nat),k < m.I.length -> j < 4 -> List.getD (flat (rLq qs M.I)) ((0 + k) * 4 + j) .undef = (rcl (qs.getD k .undef) (M.at k)).getD j .undef:=fun k j hk hj => by
   rw [Nat.zero_add,rget hqm (by omega) hj,at_get]
  have fin:(decide ((y.i:Int) < (m.I.length:Int))) = false -> (¬ (y.i < m.I.length) /\ (TV.l 1 0 = TV.l 1 0) /\ (TV.l 2 0 = TV.l 2 0) /\ ([AV.rslice id 0 m.I.length,y.tv,.int .i64 (w:Int),.int .i64 (p:Int)] = [AV.rslice id 0 m.I.length,y.tv,.int .i64 (w:Int),.int .i64 (p:Int)]) /\ ([AV.nilslice,.nilslice,.int .i64 0,.int .i64 0] = [AV.nilslice,.nilslice,.int .i64 0,.int .i64 0]) /\ y.σ.Le y.σ):=fun h =>
   ⟨fun h2 => by have h:=of_decide_eq_false h; omega,rfl,rfl,rfl,rfl,.refl _⟩
  -- nothing becomes free
  have stay:y.i < m.I.length -> freshAt M y.i = M -> ∃ x':YR,(IR95 m c id g qs tv0 x' /\ (ls95 id m.I.length w p (IR95 m c id g qs tv0)).μ x' < (ls95 id m.I.length w p (IR95 m c id g qs tv0)).μ y) /\ (TV.l 1 0 = TV.l 1 0) /\ (TV.l 2 0 = TV.l 2 0) /\ (TV.v (.int .i64 (IntKind.wrap .i64 ((y.i:Int) + 1))) = TV.v (.int .i64 (x'.i:Int))) /\
    ([AV.rslice id 0 m.I.length,y.tv,.int .i64 (w:Int),.int .i64 (p:Int)] = [AV.rslice id 0 m.I.length,x'.tv,.int .i64 (w:Int),.int .i64 (p:Int)]) /\ ([AV.nilslice,.nilslice,.int .i64 0,.int .i64 0] = [AV.nilslice,.nilslice,.int .i64 0,.int .i64 0]) /\ ((ls95 id m.I.length w p (IR95 m c id g qs tv0)).S x').Le y.σ:=fun hk hf =>
   ⟨⟨y.σ,y.c,y.iv,y.tv,y.i + 1⟩,⟨⟨hI.at_,by show y.c .ins = some (id,.cells (flat (rLq qs (mj m (y.i + 1)).I)) 164 4 g); rw [hsucc,hf]; exact hins,hI.nz,by show RoAt y.c .turn 3 1 y.tv (intsV (mj m (y.i + 1)).turn); rw [hsucc,hf]; have:=hI.turn; rw [hM] at this; exact this,hk,hI.same⟩,show m.I.length - (y.i + 1) < m.I.length - y.i by omega⟩,rfl,rfl,by rw [w1],rfl,rfl,.refl _⟩
  have hturn:=hI.turn
  rw [hM] at hturn
  have hfa:∀ b:Nat,(M.at y.i).bh = (b:Int) -> freshAt M y.i = if !(M.at y.i).fr && ((M.at b).fr && (M.at b).dead) then { M with I:=M.I.set y.i { M.at y.i with fr:=true },turn:=if (M.at y.i).q.isEmpty then M.turn else M.turn ++ [y.i] } else M:=fun b hb => by
   unfold freshAt; rw [hb,Int.toNat_natCast]
  have hrk:y.i < m.I.length -> (M.at y.i).fr = false -> ∃ b:Nat,(M.at y.i).bh = (b:Int) /\ b < y.i:=fun hk hf => by
   rw [hself hk] at hf ⊢
   have:=hr y.i hk hf
   exact ⟨(m.at y.i).bh.toNat,by omega,by omega⟩
  -- it becomes free
  have setc:y.i < m.I.length -> asplice (flat (rLq qs M.I)) (y.i * 4 + 2) [.bool true] = flat (rLq qs (M.I.set y.i { M.at y.i with fr:=true })):=fun hk => rset hqm (by omega) (by omega) (by rw [at_get (by omega)]; rfl)
  have len0:∀ l:List T,(((tcellL l).length:Int) == 0) = l.isEmpty:=fun l => by
   rw [tcellL_eq,List.length_map]
   cases l with
   | nil => rfl
   | cons a l => simp; omega
  have lenp:∀ l:List T,decide (((tcellL l).length:Int) > 0) = !l.isEmpty:=fun l => by
   rw [tcellL_eq,List.length_map]
   cases l with
   | nil => rfl
   | cons a l => simp
  have go:y.i < m.I.length -> ∀ (σ2:State) (c2:MH) (tv2:AV),At c2 σ2 -> c2 .ins = some (id,.cells (flat (rLq qs (freshAt M y.i).I)) 164 4 g) -> RoAt c2 .turn 3 1 tv2 (intsV (freshAt M y.i).turn) -> Same y.c c2 [.ins,.turn] -> (y.tv ≠ .nilslice -> tv2 ≠ .nilslice) ->
    ∃ x':YR,(IR95 m c id g qs tv0 x' /\ (ls95 id m.I.length w p (IR95 m c id g qs tv0)).μ x' < (ls95 id m.I.length w p (IR95 m c id g qs tv0)).μ y) /\ (TV.l 1 0 = TV.l 1 0) /\ (TV.l 2 0 = TV.l 2 0) /\ (TV.v (.int .i64 (IntKind.wrap .i64 ((y.i:Int) + 1))) = TV.v (.int .i64 (x'.i:Int))) /\
    ([AV.rslice id 0 m.I.length,tv2,.int .i64 (w:Int),.int .i64 (p:Int)] = [AV.rslice id 0 m.I.length,x'.tv,.int .i64 (w:Int),.int .i64 (p:Int)]) /\ ([AV.nilslice,.nilslice,.int .i64 0,.int .i64 0] = [AV.nilslice,.nilslice,.int .i64 0,.int .i64 0]) /\ ((ls95 id m.I.length w p (IR95 m c id g qs tv0)).S x').Le σ2:=fun hk σ2 c2 tv2 h1 h2 h3 h4 h5 =>
   ⟨⟨σ2,c2,y.iv,tv2,y.i + 1⟩,⟨⟨h1,by show c2 .ins = some (id,.cells (flat (rLq qs (mj m (y.i + 1)).I)) 164 4 g); rw [hsucc]; exact h2,fun h => h5 (hI.nz h),by show RoAt c2 .turn 3 1 tv2 (intsV (mj m (y.i + 1)).turn); rw [hsucc]; exact h3,hk,hI.same.trans h4⟩,show m.I.length - (y.i + 1) < m.I.length - y.i by omega⟩,rfl,rfl,by rw [w1],rfl,rfl,.refl _⟩
  have hxfr:y.i < m.I.length -> ∀ j,j < 4 -> List.getD (flat (rLq qs (M.I.set y.i { M.at y.i with fr:=true }))) ((0 + y.i) * 4 + j) .undef = (rcl (qs.getD y.i .undef) { M.at y.i with fr:=true }).getD j .undef:=fun hk j hj => by
   rw [Nat.zero_add,rget (by rw [List.length_set]; exact hqm) (by rw [List.length_set]; omega) hj,List.getElem_set_self]
  have hol:(flat (rLq qs (M.I.set y.i { M.at y.i with fr:=true }))).length = m.I.length * 4:=by rw [flat_rLq_len (by rw [List.length_set]; exact hqm),List.length_set,hml]
  have hrng:y.i < m.I.length -> (0:Int) <= (y.i:Int) /\ (y.i:Int) < (m.I.length:Int):=fun hk => ⟨by omega,by omega⟩
  have hbd:∀ (k j:Nat),k < m.I.length -> j < 4 -> ((0 + k) * 4 + j) < (flat (rLq qs M.I)).length:=fun k j h1 h2 => by rw [hoc]; omega
  rcases hturn with ⟨e,hnil⟩ | ⟨tid,off,k,tg,pre,e,htc,hpl,hcl⟩
  ·rw [e] at fin stay ⊢
   refine wpX_ok H0_ok (EV_mixed B w0 G) (L:=fun _ _ _ _ => False) _ _ _ _ (fun p hp hc Q a σ k => k.elim) (by kernel_rfl) ((vc95n B w0 G id m.I.length w p _ y).mpr (bcase_of (fun h => ?_) (fun h => ?_)))
   ·have h:=of_decide_eq_true h
    have hk:y.i < m.I.length:=by omega
    refine ⟨⟨flat (rLq qs M.I),g⟩,hino,hrng hk,⟨flat (rLq qs M.I),g⟩,hino,by rw [Int.toNat_natCast]; exact hbd _ 3 hk (by omega),(M.at y.i).bh,by rw [Int.toNat_natCast,rd _ 3 hk (by omega)]; rfl,
     ⟨flat (rLq qs M.I),g⟩,hino,hrng hk,⟨flat (rLq qs M.I),g⟩,hino,by rw [Int.toNat_natCast]; exact hbd _ 2 hk (by omega),(M.at y.i).fr,by rw [Int.toNat_natCast,rd _ 2 hk (by omega)]; rfl,bcase_of (fun hf => ?_) (fun hf => stay hk (by unfold freshAt; rw [hf]; rfl))⟩
    have hf':(M.at y.i).fr = false:=by simpa using hf
    obtain ⟨b,hb,hbi⟩:=hrk hk hf'
    have hbk:b < m.I.length:=by omega
    have hfa:=hfa b hb
    have hqb:(rcl (qs.getD b .undef) (M.at b)).getD 0 .undef = .slice 4 (tcellL (M.at b).q) .any:=by
     have h9:=hqs.old y.i hk (by rw [<-hself hk]; exact hf')
     rw [<-hself hk,hb,Int.toNat_natCast] at h9
     rw [(hmq b).1]
     exact h9
    have hbr:(0:Int) <= (M.at y.i).bh /\ (M.at y.i).bh < (m.I.length:Int):=by rw [hb]; omega
    refine ⟨⟨flat (rLq qs M.I),g⟩,hino,hbr,⟨flat (rLq qs M.I),g⟩,hino,by rw [hb,Int.toNat_natCast]; exact hbd _ 2 hbk (by omega),(M.at b).fr,by rw [hb,Int.toNat_natCast,rd _ 2 hbk (by omega)]; rfl,bcase_of (fun hf1 => ?_) (fun hf1 => stay hk (by rw [hfa,hf1]; simp))⟩
    refine ⟨⟨flat (rLq qs M.I),g⟩,hino,hbr,⟨flat (rLq qs M.I),g⟩,hino,by rw [hb,Int.toNat_natCast]; exact hbd _ 1 hbk (by omega),(M.at b).op,by rw [hb,Int.toNat_natCast,rd _ 1 hbk (by omega)]; rfl,bcase_of (fun hf2 => ?_) (fun hf2 => stay hk (by rw [hfa]; unfold RI.dead; rw [hf2]; simp))⟩
    refine ⟨⟨flat (rLq qs M.I),g⟩,hino,hbr,⟨flat (rLq qs M.I),g⟩,hino,by rw [hb,Int.toNat_natCast]; exact hbd _ 0 hbk (by omega),(M.at b).q,by rw [hb,Int.toNat_natCast,rd _ 0 hbk (by omega)]; exact hqb,bcase_of (fun hf3 => ?_) (fun hf3 => stay hk (by rw [len0] at hf3; rw [hfa]; unfold RI.dead; rw [hf3]; simp))⟩
    rw [len0] at hf3
    have hfr:freshAt M y.i = { M with I:=M.I.set y.i { M.at y.i with fr:=true },turn:=if (M.at y.i).q.isEmpty then M.turn else M.turn ++ [y.i] }:=by
     rw [hfa,if_pos]
     have hf2':(M.at b).op = false:=by simpa using hf2
     have hf1':(M.at b).fr = true:=hf1
     unfold RI.dead
     rw [hf',hf1',hf2',hf3]; rfl
    have hA1:=hI.at_.set hins (.cells (flat (rLq qs (M.I.set y.i { M.at y.i with fr:=true }))) 164 4 g)
    refine ⟨⟨flat (rLq qs M.I),g⟩,hino,hrng hk,⟨flat (rLq qs M.I),g⟩,hino,by have:=hbd _ 3 hk (by omega); rw [Int.toNat_natCast]; show (0 + y.i) * 4 + 2 + 1 <= (flat (rLq qs M.I)).length; omega,?_⟩
    dsimp only
    rw [Int.toNat_natCast,show (0 + y.i) * 4 + 2 = y.i * 4 + 2 by omega,setc hk]
    refine ⟨⟨flat (rLq qs (M.I.set y.i { M.at y.i with fr:=true })),g⟩,by rw [objs_set,if_pos rfl],hrng hk,⟨flat (rLq qs (M.I.set y.i { M.at y.i with fr:=true })),g⟩,by rw [objs_set,if_pos rfl],by show (0 + y.i) * 4 + 0 < (flat (rLq qs (M.I.set y.i { M.at y.i with fr:=true }))).length; rw [hol]; omega,?_⟩
    have hx0:=hxfr hk 0 (by omega)
    have hQV:QV (qs.getD y.i .undef) (M.at y.i).q:=by rw [(hmq y.i).1]; exact hqs.ok y.i hk
    obtain ⟨cN,n1,n2,n3⟩:∃ c2:MH,At c2 (y.σ.set id (.cells (flat (rLq qs (M.I.set y.i { M.at y.i with fr:=true }))) 164 4 g)) /\ c2 .ins = some (id,.cells (flat (rLq qs (M.I.set y.i { M.at y.i with fr:=true }))) 164 4 g) /\ Same y.c c2 [.ins]:=⟨_,hA1,hup_self,Same.hup (by simp)⟩
    have hnoitem:=fun (hqe:(M.at y.i).q.isEmpty = true) => go hk _ cN (.nilslice) n1 (by rw [hfr]; exact n2) (by
     rw [hfr]
     show RoAt cN .turn 3 1 _ (intsV (if (M.at y.i).q.isEmpty then M.turn else M.turn ++ [y.i]))
     rw [hqe]
     exact .inl ⟨rfl,hnil⟩) (n3.wide (by simp)) (fun h => absurd e h)
    rcases hQV with hqv | ⟨hqv,hqn⟩
    rotate_left
    ·exact .inl ⟨by dsimp only; rw [hx0]; exact hqv,hnoitem (by rw [hqn]; rfl)⟩
    refine .inr ⟨(M.at y.i).q,by dsimp only; rw [hx0]; exact hqv,bcase_of (fun hl => ?_) (fun hl => ?_)⟩
    ·rw [lenp] at hl
     have hqe:(M.at y.i).q.isEmpty = false:=by simpa using hl
     obtain ⟨c2,k1,k2,k3,k4⟩:∃ c2:MH,At c2 ((y.σ.set id (.cells (flat (rLq qs (M.I.set y.i { M.at y.i with fr:=true }))) 164 4 g)).new (.cells [.int .i64 (y.i:Int)] 3 1 true)) /\ c2 .ins = some (id,.cells (flat (rLq qs (M.I.set y.i { M.at y.i with fr:=true }))) 164 4 g) /\ c2 .turn = some (y.σ.next,.cells [.int .i64 (y.i:Int)] 3 1 true) /\ Same y.c c2 [.ins,.turn] :=
      ⟨_,hA1.new .turn _,(hup_ne (by simp)).trans hup_self,hup_self,(Same.hup (by simp)).trans (Same.hup (by simp))⟩
     refine ⟨⟨by decide,by decide⟩,go hk _ c2 (.rslice y.σ.next 0 1) k1 (by rw [hfr]; exact k2) ?_ k4 (fun _ h => by cases h)⟩
     rw [hfr]
     show RoAt c2 .turn 3 1 _ (intsV (if (M.at y.i).q.isEmpty then M.turn else M.turn ++ [y.i]))
     rw [hqe,List.map_eq_nil_iff.1 hnil]
     exact .inr ⟨y.σ.next,0,1,true,[],rfl,k3,rfl,rfl⟩
    ·rw [lenp] at hl
     have hqe:(M.at y.i).q.isEmpty = true:=by simpa using hl
     exact hnoitem hqe
   ·obtain ⟨f1,f2,f3,f4,f5,f6⟩:=fin h
    exact ⟨f1,f2,f3,by rw [e],f5,f6⟩
  ·rw [e] at fin stay ⊢
   refine wpX_ok H0_ok (EV_mixed B w0 G) (L:=fun _ _ _ _ => False) _ _ _ _ (fun p hp hc Q a σ k => k.elim) (by kernel_rfl) ((vc95r B w0 G id m.I.length w p tid off k _ y).mpr (bcase_of (fun h => ?_) (fun h => ?_)))
   ·have h:=of_decide_eq_true h
    have hk:y.i < m.I.length:=by omega
    have hkl:k = M.turn.length:=by rw [intsV_len] at hcl; omega
    refine ⟨⟨flat (rLq qs M.I),g⟩,hino,hrng hk,⟨flat (rLq qs M.I),g⟩,hino,by rw [Int.toNat_natCast]; exact hbd _ 3 hk (by omega),(M.at y.i).bh,by rw [Int.toNat_natCast,rd _ 3 hk (by omega)]; rfl,
     ⟨flat (rLq qs M.I),g⟩,hino,hrng hk,⟨flat (rLq qs M.I),g⟩,hino,by rw [Int.toNat_natCast]; exact hbd _ 2 hk (by omega),(M.at y.i).fr,by rw [Int.toNat_natCast,rd _ 2 hk (by omega)]; rfl,bcase_of (fun hf => ?_) (fun hf => stay hk (by unfold freshAt; rw [hf]; rfl))⟩
    have hf':(M.at y.i).fr = false:=by simpa using hf
    obtain ⟨b,hb,hbi⟩:=hrk hk hf'
    have hbk:b < m.I.length:=by omega
    have hfa:=hfa b hb
    have hqb:(rcl (qs.getD b .undef) (M.at b)).getD 0 .undef = .slice 4 (tcellL (M.at b).q) .any:=by
     have h9:=hqs.old y.i hk (by rw [<-hself hk]; exact hf')
     rw [<-hself hk,hb,Int.toNat_natCast] at h9
     rw [(hmq b).1]
     exact h9
    have hbr:(0:Int) <= (M.at y.i).bh /\ (M.at y.i).bh < (m.I.length:Int):=by rw [hb]; omega
    refine ⟨⟨flat (rLq qs M.I),g⟩,hino,hbr,⟨flat (rLq qs M.I),g⟩,hino,by rw [hb,Int.toNat_natCast]; exact hbd _ 2 hbk (by omega),(M.at b).fr,by rw [hb,Int.toNat_natCast,rd _ 2 hbk (by omega)]; rfl,bcase_of (fun hf1 => ?_) (fun hf1 => stay hk (by rw [hfa,hf1]; simp))⟩
    refine ⟨⟨flat (rLq qs M.I),g⟩,hino,hbr,⟨flat (rLq qs M.I),g⟩,hino,by rw [hb,Int.toNat_natCast]; exact hbd _ 1 hbk (by omega),(M.at b).op,by rw [hb,Int.toNat_natCast,rd _ 1 hbk (by omega)]; rfl,bcase_of (fun hf2 => ?_) (fun hf2 => stay hk (by rw [hfa]; unfold RI.dead; rw [hf2]; simp))⟩
    refine ⟨⟨flat (rLq qs M.I),g⟩,hino,hbr,⟨flat (rLq qs M.I),g⟩,hino,by rw [hb,Int.toNat_natCast]; exact hbd _ 0 hbk (by omega),(M.at b).q,by rw [hb,Int.toNat_natCast,rd _ 0 hbk (by omega)]; exact hqb,bcase_of (fun hf3 => ?_) (fun hf3 => stay hk (by rw [len0] at hf3; rw [hfa]; unfold RI.dead; rw [hf3]; simp))⟩
    rw [len0] at hf3
    have hfr:freshAt M y.i = { M with I:=M.I.set y.i { M.at y.i with fr:=true },turn:=if (M.at y.i).q.isEmpty then M.turn else M.turn ++ [y.i] }:=by
     rw [hfa,if_pos]
     have hf2':(M.at b).op = false:=by simpa using hf2
     have hf1':(M.at b).fr = true:=hf1
     unfold RI.dead
     rw [hf',hf1',hf2',hf3]; rfl
    have hA1:=hI.at_.set hins (.cells (flat (rLq qs (M.I.set y.i { M.at y.i with fr:=true }))) 164 4 g)
    refine ⟨⟨flat (rLq qs M.I),g⟩,hino,hrng hk,⟨flat (rLq qs M.I),g⟩,hino,by have:=hbd _ 3 hk (by omega); rw [Int.toNat_natCast]; show (0 + y.i) * 4 + 2 + 1 <= (flat (rLq qs M.I)).length; omega,?_⟩
    dsimp only
    rw [Int.toNat_natCast,show (0 + y.i) * 4 + 2 = y.i * 4 + 2 by omega,setc hk]
    refine ⟨⟨flat (rLq qs (M.I.set y.i { M.at y.i with fr:=true })),g⟩,by rw [objs_set,if_pos rfl],hrng hk,⟨flat (rLq qs (M.I.set y.i { M.at y.i with fr:=true })),g⟩,by rw [objs_set,if_pos rfl],by show (0 + y.i) * 4 + 0 < (flat (rLq qs (M.I.set y.i { M.at y.i with fr:=true }))).length; rw [hol]; omega,?_⟩
    have hx0:=hxfr hk 0 (by omega)
    have hQV:QV (qs.getD y.i .undef) (M.at y.i).q:=by rw [(hmq y.i).1]; exact hqs.ok y.i hk
    obtain ⟨cN,n1,n2,n3⟩:∃ c2:MH,At c2 (y.σ.set id (.cells (flat (rLq qs (M.I.set y.i { M.at y.i with fr:=true }))) 164 4 g)) /\ c2 .ins = some (id,.cells (flat (rLq qs (M.I.set y.i { M.at y.i with fr:=true }))) 164 4 g) /\ Same y.c c2 [.ins]:=⟨_,hA1,hup_self,Same.hup (by simp)⟩
    have hnoitem:=fun (hqe:(M.at y.i).q.isEmpty = true) => go hk _ cN (.rslice tid off k) n1 (by rw [hfr]; exact n2) (by
     rw [hfr]
     show RoAt cN .turn 3 1 _ (intsV (if (M.at y.i).q.isEmpty then M.turn else M.turn ++ [y.i]))
     rw [hqe]
     exact .inr ⟨tid,off,k,tg,pre,rfl,(n3 _ (by simp)).trans htc,hpl,hcl⟩) (n3.wide (by simp)) (fun _ h => by cases h)
    rcases hQV with hqv | ⟨hqv,hqn⟩
    rotate_left
    ·exact .inl ⟨by dsimp only; rw [hx0]; exact hqv,hnoitem (by rw [hqn]; rfl)⟩
    refine .inr ⟨(M.at y.i).q,by dsimp only; rw [hx0]; exact hqv,bcase_of (fun hl => ?_) (fun hl => ?_)⟩
    ·rw [lenp] at hl
     have hqe:(M.at y.i).q.isEmpty = false:=by simpa using hl
     have htc2:hup y.c .ins (some (id,.cells (flat (rLq qs (M.I.set y.i { M.at y.i with fr:=true }))) 164 4 g)) .turn = some (tid,.cells (pre ++ intsV M.turn) 3 1 tg):=(hup_ne (by simp)).trans htc
     have hto:=hA1.obj htc2
     refine ⟨⟨pre ++ intsV M.turn,tg⟩,hto,⟨⟨by omega,by omega⟩,by show (off + k) * 1 <= (pre ++ intsV M.turn).length; rw [List.length_append]; omega⟩,?_,?_⟩
     ·have htk:List.take ((off + k) * 1) (pre ++ intsV M.turn) = pre ++ intsV M.turn:=List.take_of_length_le (by rw [List.length_append]; omega)
      obtain ⟨c2,k1,k2,k3,k4⟩:∃ c2:MH,At c2 (((y.σ.set id (.cells (flat (rLq qs (M.I.set y.i { M.at y.i with fr:=true }))) 164 4 g)).set tid .dead).new (.cells (pre ++ intsV M.turn ++ [.int .i64 (y.i:Int)]) 3 1 true)) /\ c2 .ins = some (id,.cells (flat (rLq qs (M.I.set y.i { M.at y.i with fr:=true }))) 164 4 g) /\ c2 .turn = some (y.σ.next,.cells (pre ++ intsV M.turn ++ [.int .i64 (y.i:Int)]) 3 1 true) /\ Same y.c c2 [.ins,.turn] :=
       ⟨_,hA1.grow htc2 _,(hup_ne (by simp)).trans hup_self,hup_self,(Same.hup (by simp)).trans (Same.hup (by simp))⟩
      dsimp only
      rw [htk]
      refine go hk _ c2 (.rslice y.σ.next off (k + 1)) k1 (by rw [hfr]; exact k2) ?_ k4 (fun _ h => by cases h)
      rw [hfr]
      show RoAt c2 .turn 3 1 _ (intsV (if (M.at y.i).q.isEmpty then M.turn else M.turn ++ [y.i]))
      rw [hqe]
      refine .inr ⟨y.σ.next,off,k + 1,true,pre,rfl,?_,hpl,?_⟩
      ·rw [k3,List.append_assoc]; show _ = some (_,AObj.cells (pre ++ intsV (M.turn ++ [y.i])) _ _ _); rw [intsV_append]; rfl
      ·show (intsV (M.turn ++ [y.i])).length = _; rw [intsV_append,List.length_append,hcl]; show k * 1 + 1 = _; omega
     ·have htk:List.take (k * 1) (List.drop (off * 1) (pre ++ intsV M.turn)) = intsV M.turn:=by rw [List.drop_left' hpl,List.take_of_length_le (by omega)]
      obtain ⟨c2,k1,k2,k3,k4⟩:∃ c2:MH,At c2 (((y.σ.set id (.cells (flat (rLq qs (M.I.set y.i { M.at y.i with fr:=true }))) 164 4 g)).set tid .dead).new (.cells (intsV M.turn ++ [.int .i64 (y.i:Int)]) 3 1 true)) /\ c2 .ins = some (id,.cells (flat (rLq qs (M.I.set y.i { M.at y.i with fr:=true }))) 164 4 g) /\ c2 .turn = some (y.σ.next,.cells (intsV M.turn ++ [.int .i64 (y.i:Int)]) 3 1 true) /\ Same y.c c2 [.ins,.turn] :=
       ⟨_,hA1.grow htc2 _,(hup_ne (by simp)).trans hup_self,hup_self,(Same.hup (by simp)).trans (Same.hup (by simp))⟩
      dsimp only
      rw [htk]
      refine go hk _ c2 (.rslice y.σ.next 0 (k + 1)) k1 (by rw [hfr]; exact k2) ?_ k4 (fun _ h => by cases h)
      rw [hfr]
      show RoAt c2 .turn 3 1 _ (intsV (if (M.at y.i).q.isEmpty then M.turn else M.turn ++ [y.i]))
      rw [hqe]
      refine .inr ⟨y.σ.next,0,k + 1,true,[],rfl,?_,by simp,?_⟩
      ·rw [k3]; show _ = some (_,AObj.cells ([] ++ intsV (M.turn ++ [y.i])) _ _ _); rw [intsV_append]; rfl
      ·show (intsV (M.turn ++ [y.i])).length = _; rw [intsV_append,List.length_append,hcl]; show k * 1 + 1 = _; omega
    ·rw [lenp] at hl
     have hqe:(M.at y.i).q.isEmpty = true:=by simpa using hl
     exact hnoitem hqe
   ·obtain ⟨f1,f2,f3,f4,f5,f6⟩:=fin h
    exact ⟨f1,f2,f3,by rw [e],f5,f6⟩
 ·cases e with
  | exit i =>
   match i,kk with
   | 0,kk =>
    have hI:IR95 m c id g qs tv0 y:=hI
    exact ⟨_,_,(atF_ok kk.2).1,(atF_ok kk.2).2,hQ y ⟨hI,by have:=hI.i; have:=kk.1; omega⟩⟩
  | normal => exact absurd rfl hne
  | _ => exact kk.elim
theorem c95_ok:ContractOk (EV B w0 G) 95 C95r:=by
 rintro args σ Q ⟨m,c,id,g,tv,qs,rfl,⟨hA,hins,hturn,hI5,ht5,hr,hqs⟩,hQ⟩
 have hone:∀ tv':AV,tv'.one = true -> List.all (AV.cells (.agg [.rslice id 0 m.I.length,tv',.int .i64 (m.work:Int),.int .i64 (m.puts:Int)])) AV.one = true:=fun tv' h => by
  show (AV.one (.rslice id 0 m.I.length) && (AV.one tv' && (AV.one (.int .i64 (m.work:Int)) && (AV.one (.int .i64 (m.puts:Int)) && true)))) = true
  rw [h]; rfl
 have ro1:∀ {c:MH} {v:AV} {cs:List AV},RoAt c .turn 3 1 v cs -> v.one = true:=fun h => by
  rcases h with ⟨rfl,_⟩ | ⟨_,_,_,_,_,rfl,_⟩ <;> rfl
 refine bodyX_ok (cuts:=[]) (EV_mixed B w0 G) H0_ok (fun lp hl _ Q a σ kk => ?_) ((vc95 B w0 G id m.I.length m.work m.puts tv (IR95 m c id g qs tv) (fun y => IR95 m c id g qs tv y /\ y.i = m.I.length) σ Q).mpr ?_)
 ·change lp ∈ fnParts Tryz.prog [] 95 at hl
  rw [fnParts_95] at hl
  simp only [List.mem_cons,List.not_mem_nil,or_false] at hl
  subst hl
  obtain ⟨y,hI,ha,hq⟩:=kk
  exact loop95 hI5 ht5 hr hqs hI Q a σ ha hq
 refine bcase_of (fun _ => ⟨⟨σ,c,.nilslice,tv,0⟩,⟨hA,hins,fun h => h,hturn,Nat.zero_le _,.refl _ _⟩,⟨rfl,rfl,rfl,rfl,rfl,.refl _⟩,fun y ⟨hI,hy⟩ => ?_⟩) (fun h => ?_)
 ·have h1:=hI.ins
  have h2:=hI.turn
  rw [hy] at h1 h2
  exact bcase_of (fun _ => hQ y.tv y.c y.σ ⟨hI.at_,h1,h2,hI.same,hI.nz⟩) (fun h => by
   have:=hone y.tv (ro1 h2)
   have h':(true && (true && (List.all (AV.cells (.agg [.rslice id 0 m.I.length,y.tv,.int .i64 (m.work:Int),.int .i64 (m.puts:Int)])) AV.one && true))) = false:=h
   rw [this] at h'; cases h')
 ·have:=hone tv (ro1 hturn)
  have h':List.all (AV.cells (.agg [.rslice id 0 m.I.length,tv,.int .i64 (m.work:Int),.int .i64 (m.puts:Int)])) AV.one = false:=h
  rw [this] at h'; cases h'
end
end Go.V
